-- Printed by wip/xprint of this session, over the kit's print: Lean functions for Go functions, and their contracts.
import Derived.Test.YthldophikcgkcaaPSrx0
namespace Go.Proofs.Ythldophikcgkcaa.PSr
open Go.RowKit Go.Proofs.YthldophikcgkcaaW.PrintWords Go.Proofs.YthldophikcgkcaaW.PrintLast Go.Proofs.YthldophikcgkcaaW.PrintMore Go.Proofs.Ythldophikcgkcaa.X
attribute [local go_sem] max2_int min2_int max_two min_two max_three min_three max_four min_four   -- for this text's walks alone
set_option linter.unusedVariables false
set_option linter.unusedSimpArgs false

/-! ### tarnlaw40_near: function 15 -/
mutual
def tarnlaw40_near.l0 : Nat → List (S40) → Bool → List (S40) → Int → Option ((List (S40)))
  | 0, _, _, _, _ => none
  | k + 1, x0, x1, x5, x6 => if x6 < (x0.length : Int) then (tarnlaw40_near.j1 k x0 x1 x5 x6 (decide (x6 < 7))) else (tarnlaw40_near.j1 k x0 x1 x5 x6 false)
def tarnlaw40_near.j1 : Nat → List (S40) → Bool → List (S40) → Int → Bool → Option ((List (S40)))
  | 0, _, _, _, _, _ => none
  | k + 1, x0, x1, x5, x6, x16 => if x16 = true then (if 0 ≤ x6 then (if x6 < (x0.length : Int) then (if (Go.bits .and .i64 (((rd_T40 x0 x6).f3) / 8) 7) = 7 then (tarnlaw40_near.j2 k x0 x1 x5 x6 ((rd_T40 x0 x6).f0) (⟨#[]⟩ : ByteArray) (Go.bits .and .i64 ((rd_T40 x0 x6).f2) 15) 1073741824) else (tarnlaw40_near.j2 k x0 x1 x5 x6 ((rd_T40 x0 x6).f0) (⟨#[]⟩ : ByteArray) (Go.bits .and .i64 ((rd_T40 x0 x6).f2) 15) (wrap64 ((wrap64 ((Go.bits .and .i64 ((rd_T40 x0 x6).f2) 15) + 1)) + (Go.bits .and .i64 ((rd_T40 x0 x6).f3) 7))))) else (none)) else (none)) else (some x5)
def tarnlaw40_near.j2 : Nat → List (S40) → Bool → List (S40) → Int → Bool → ByteArray → Int → Int → Option ((List (S40)))
  | 0, _, _, _, _, _, _, _, _ => none
  | k + 1, x0, x1, x5, x6, x107000, x107001, x107002, x107003 => if 0 ≤ x6 then (if x6 < (x0.length : Int) then ((some (([(wrap64 (97 + (Go.bits .and .i64 (((rd_T40 x0 x6).f1).size : Int) 3))) % 256] : List Int) : List Int)).bind fun y110 => (if x107000 = true then (tarnlaw40_near.j3 k x0 x1 x5 x6 x1 x107000 (strOfNums y110) x107002 x107003) else (tarnlaw40_near.j3 k x0 x1 x5 x6 false x107000 (strOfNums y110) x107002 x107003))) else (none)) else (none)
def tarnlaw40_near.j3 : Nat → List (S40) → Bool → List (S40) → Int → Bool → Bool → ByteArray → Int → Int → Option ((List (S40)))
  | 0, _, _, _, _, _, _, _, _, _ => none
  | k + 1, x0, x1, x5, x6, x67, x107000, x107001, x107002, x107003 => if x67 = true then ((some (([(wrap64 (97 + x6)) % 256] : List Int) : List Int)).bind fun y113 => (if x107000 = true then (if x5.length < 3518437208883 then (tarnlaw40_near.l0 k x0 x1 (x5 ++ [(⟨x107000, strOfNums y113, x107002, x107003⟩ : S40)]) (wrap64 (x6 + 1))) else (none)) else (if x1 = true then (if 0 ≤ x6 then (if x6 < (x0.length : Int) then (if x5.length < 3518437208883 then (tarnlaw40_near.l0 k x0 x1 (x5 ++ [(⟨x107000, strOfNums (([97 + ((((rd_T40 x0 x6).f1).size : Int) % 7)] : List Int)), x107002, x107003⟩ : S40)]) (wrap64 (x6 + 1))) else (none)) else (none)) else (none)) else (if x5.length < 3518437208883 then (tarnlaw40_near.l0 k x0 x1 (x5 ++ [(⟨x107000, strOfNums y113, x107002, x107003⟩ : S40)]) (wrap64 (x6 + 1))) else (none))))) else (if x107000 = true then (if x5.length < 3518437208883 then (tarnlaw40_near.l0 k x0 x1 (x5 ++ [(⟨x107000, x107001, x107002, x107003⟩ : S40)]) (wrap64 (x6 + 1))) else (none)) else (if x1 = true then (if 0 ≤ x6 then (if x6 < (x0.length : Int) then (if x5.length < 3518437208883 then (tarnlaw40_near.l0 k x0 x1 (x5 ++ [(⟨x107000, strOfNums (([97 + ((((rd_T40 x0 x6).f1).size : Int) % 7)] : List Int)), x107002, x107003⟩ : S40)]) (wrap64 (x6 + 1))) else (none)) else (none)) else (none)) else (if x5.length < 3518437208883 then (tarnlaw40_near.l0 k x0 x1 (x5 ++ [(⟨x107000, x107001, x107002, x107003⟩ : S40)]) (wrap64 (x6 + 1))) else (none))))
end
def tarnlaw40_near.f (k : Nat) (l0 : List (S40)) (a1 : Bool) : Option ((List (S40))) := tarnlaw40_near.l0 k l0 a1 (([] : List (S40))) 0
theorem tarnlaw40_near.mono_l : ∀ k, (∀ y0 y1 y2 y3, LeO (tarnlaw40_near.l0 k y0 y1 y2 y3) (tarnlaw40_near.l0 (k + 1) y0 y1 y2 y3)) ∧ (∀ y0 y1 y2 y3 y4, LeO (tarnlaw40_near.j1 k y0 y1 y2 y3 y4) (tarnlaw40_near.j1 (k + 1) y0 y1 y2 y3 y4)) ∧ (∀ y0 y1 y2 y3 y4 y5 y6 y7, LeO (tarnlaw40_near.j2 k y0 y1 y2 y3 y4 y5 y6 y7) (tarnlaw40_near.j2 (k + 1) y0 y1 y2 y3 y4 y5 y6 y7)) ∧ (∀ y0 y1 y2 y3 y4 y5 y6 y7 y8, LeO (tarnlaw40_near.j3 k y0 y1 y2 y3 y4 y5 y6 y7 y8) (tarnlaw40_near.j3 (k + 1) y0 y1 y2 y3 y4 y5 y6 y7 y8))
  | 0 => ⟨fun _ _ _ _ r h => by simp [tarnlaw40_near.l0] at h, fun _ _ _ _ _ r h => by simp [tarnlaw40_near.j1] at h, fun _ _ _ _ _ _ _ _ r h => by simp [tarnlaw40_near.j2] at h, fun _ _ _ _ _ _ _ _ _ r h => by simp [tarnlaw40_near.j3] at h⟩
  | k + 1 => by
    obtain ⟨ih0, ih1, ih2, ih3⟩ := tarnlaw40_near.mono_l k
    refine ⟨?_, ?_, ?_, ?_⟩
    · intro y0 y1 y2 y3
      unfold tarnlaw40_near.l0
      repeat' first
      | (with_reducible exact ih0 _ _ _ _)
      | (with_reducible exact ih1 _ _ _ _ _)
      | (with_reducible exact ih2 _ _ _ _ _ _ _ _)
      | (with_reducible exact ih3 _ _ _ _ _ _ _ _ _)
      | (with_reducible exact LeO.refl _)
      | (with_reducible exact LeO.none _)
      | (with_reducible refine LeO.ite ?_ ?_)
      | (with_reducible refine LeO.bind ?_ (fun _ => ?_))
      | exact ih0 _ _ _ _
      | exact ih1 _ _ _ _ _
      | exact ih2 _ _ _ _ _ _ _ _
      | exact ih3 _ _ _ _ _ _ _ _ _
      | exact LeO.none _
      | refine LeO.ite ?_ ?_
      | refine LeO.bind ?_ (fun _ => ?_)
    · intro y0 y1 y2 y3 y4
      unfold tarnlaw40_near.j1
      repeat' first
      | (with_reducible exact ih0 _ _ _ _)
      | (with_reducible exact ih1 _ _ _ _ _)
      | (with_reducible exact ih2 _ _ _ _ _ _ _ _)
      | (with_reducible exact ih3 _ _ _ _ _ _ _ _ _)
      | (with_reducible exact LeO.refl _)
      | (with_reducible exact LeO.none _)
      | (with_reducible refine LeO.ite ?_ ?_)
      | (with_reducible refine LeO.bind ?_ (fun _ => ?_))
      | exact ih0 _ _ _ _
      | exact ih1 _ _ _ _ _
      | exact ih2 _ _ _ _ _ _ _ _
      | exact ih3 _ _ _ _ _ _ _ _ _
      | exact LeO.none _
      | refine LeO.ite ?_ ?_
      | refine LeO.bind ?_ (fun _ => ?_)
    · intro y0 y1 y2 y3 y4 y5 y6 y7
      unfold tarnlaw40_near.j2
      repeat' first
      | (with_reducible exact ih0 _ _ _ _)
      | (with_reducible exact ih1 _ _ _ _ _)
      | (with_reducible exact ih2 _ _ _ _ _ _ _ _)
      | (with_reducible exact ih3 _ _ _ _ _ _ _ _ _)
      | (with_reducible exact LeO.refl _)
      | (with_reducible exact LeO.none _)
      | (with_reducible refine LeO.ite ?_ ?_)
      | (with_reducible refine LeO.bind ?_ (fun _ => ?_))
      | exact ih0 _ _ _ _
      | exact ih1 _ _ _ _ _
      | exact ih2 _ _ _ _ _ _ _ _
      | exact ih3 _ _ _ _ _ _ _ _ _
      | exact LeO.none _
      | refine LeO.ite ?_ ?_
      | refine LeO.bind ?_ (fun _ => ?_)
    · intro y0 y1 y2 y3 y4 y5 y6 y7 y8
      unfold tarnlaw40_near.j3
      repeat' first
      | (with_reducible exact ih0 _ _ _ _)
      | (with_reducible exact ih1 _ _ _ _ _)
      | (with_reducible exact ih2 _ _ _ _ _ _ _ _)
      | (with_reducible exact ih3 _ _ _ _ _ _ _ _ _)
      | (with_reducible exact LeO.refl _)
      | (with_reducible exact LeO.none _)
      | (with_reducible refine LeO.ite ?_ ?_)
      | (with_reducible refine LeO.bind ?_ (fun _ => ?_))
      | exact ih0 _ _ _ _
      | exact ih1 _ _ _ _ _
      | exact ih2 _ _ _ _ _ _ _ _
      | exact ih3 _ _ _ _ _ _ _ _ _
      | exact LeO.none _
      | refine LeO.ite ?_ ?_
      | refine LeO.bind ?_ (fun _ => ?_)
theorem tarnlaw40_near.mono : ∀ a0 a1 k, LeO (tarnlaw40_near.f k a0 a1) (tarnlaw40_near.f (k + 1) a0 a1) := by
  intro a0 a1 k
  obtain ⟨ih0, ih1, ih2, ih3⟩ := tarnlaw40_near.mono_l k
  unfold tarnlaw40_near.f
  repeat' first
      | (with_reducible exact ih0 _ _ _ _)
      | (with_reducible exact ih1 _ _ _ _ _)
      | (with_reducible exact ih2 _ _ _ _ _ _ _ _)
      | (with_reducible exact ih3 _ _ _ _ _ _ _ _ _)
      | (with_reducible exact LeO.refl _)
      | (with_reducible exact LeO.none _)
      | (with_reducible refine LeO.ite ?_ ?_)
      | (with_reducible refine LeO.bind ?_ (fun _ => ?_))
      | exact ih0 _ _ _ _
      | exact ih1 _ _ _ _ _
      | exact ih2 _ _ _ _ _ _ _ _
      | exact ih3 _ _ _ _ _ _ _ _ _
      | exact LeO.none _
      | refine LeO.ite ?_ ?_
      | refine LeO.bind ?_ (fun _ => ?_)
def tarnlaw40_near.T5 : Bool × List (List Nat × List Nat) := (true, [([], []), ([], []), ([0, 1], [0, 1]), ([2], [2]), ([3], [3]), ([], []), ([], []), ([5, 6], [5, 6]), ([7], [7]), ([8], [8]), ([9], [9]), ([4, 10], [4, 10]), ([], []), ([12, 11, 0, 1, 2, 3, 4, 5, 6, 7, 8, 9, 10, 11, 12], [11, 12])])
def tarnlaw40_near.B5 : List Nat := [0, 0, 3, 7, 15, 0, 0, 96, 224, 480, 992, 2047, 0, 8191]
theorem tarnlaw40_near.tab5 : rtab .any (opsOf Try.f15 5) = tarnlaw40_near.T5 := by kernel_rfl
theorem tarnlaw40_near.bits5 : waitsOk tarnlaw40_near.T5.2 tarnlaw40_near.B5 = true := by kernel_rfl
def tarnlaw40_near.T6 : Bool × List (List Nat × List Nat) := (true, [([], []), ([0], [0]), ([1], [1]), ([], []), ([], []), ([3, 4], [3, 4]), ([5], [5]), ([6], [6]), ([7], [7]), ([2, 8], [2, 8]), ([0, 1, 2, 3, 4, 5, 6, 7, 8, 9], []), ([10, 9, 0, 1, 2, 3, 4, 5, 6, 7, 8, 9], [9, 10])])
def tarnlaw40_near.B6 : List Nat := [0, 1, 3, 0, 0, 24, 56, 120, 248, 511, 1023, 2047]
theorem tarnlaw40_near.tab6 : rtab .any (opsOf Try.f15 6) = tarnlaw40_near.T6 := by kernel_rfl
theorem tarnlaw40_near.bits6 : waitsOk tarnlaw40_near.T6.2 tarnlaw40_near.B6 = true := by kernel_rfl
set_option maxHeartbeats 3000000 in
set_option maxRecDepth 100000 in
theorem tarnlaw40_near.calls (k : Nat) (A0 : Option Addr) (c0 : Nat) (l0 : List (S40)) (a1 : Bool) (r : List (S40)) (w : World) (hr0 : Kd.C k40 w A0 l0.length l0) (hc0 : l0.length ≤ c0) (h : tarnlaw40_near.f k l0 a1 = some r) :
    Calls Try.prog 15 #[.slice A0 l0.length c0, .bool a1] w fun e w' => ∃ v0_ : Value, e = .returned (v0_) ∧ Kd.R k40 40 w' w.heap.size (fun _ => True) v0_ r ∧ Below w.heap.size w w' := by
  have hu40 := Try.underlying40
  have HR0 := Aside0.mk hr0
  have HC0 := Aside0.mk hc0
  clear hr0 hc0
  have HB := Aside0.mk (Below.refl w.heap.size w)
  have H : (tarnlaw40_near.l0 k l0 a1 (([] : List (S40))) 0) = some r := h
  clear h
  obtain ⟨y101, hy101⟩ : ∃ y_ : List (S40), y_ = (([] : List (S40))) := ⟨_, rfl⟩
  replace H : (tarnlaw40_near.l0 k l0 a1 y101 0) = some r := by first | (rw [hy101]; with_reducible exact H) | (have H2_ := (Option.bind_some _ _).symm.trans H; rw [hy101]; with_reducible exact H2_) | (have H2_ := (Option.bind_some _ _).symm.trans H; with_reducible exact H2_) | with_reducible exact H | (rw [hy101]; exact H) | exact H
  have Ny101 := Aside0.mk hy101
  clear hy101
  have H' := Aside0.mk H
  clear H
  go_enter Try.func15, Try.ntmps15
  go_wp2_with (first | ((with_reducible refine gate_dst (N := 8) rfl ?_); refine Kd.R_lit k40 _ 40 ?hg (N := 8) ?hd (xs := ([] : List (S40))) (inner := []) (ok := fun _ => True) (okp := fun _ => True) ?hr ?hp (fun _ hk => hk) trivial (Below.refl _ _) (Nat.le_refl _) (by simp) ?_; (case hd => rfl); (case hg => rfl); (case hr => first | (go_simp; done) | (go_simp; rfl)); (case hp => exact (Reps.none _ _)); intro v102 w3 ho4 hb hg_ hnew_; clear hg_ hnew_; (first | rw [← Ny101.out] at ho4 | (simp only [Int.reduceToNat] at ho4; rw [← Ny101.out] at ho4)); have n0_ := Aside0.mk (Kd.R_lower ho4 (below_size (by repeat (first | (with_reducible first | exact HB.out | apply below_alloc | apply pw_below_drewN | apply below_drew1) | exact HB.out)))); have n1_ := Aside0.mk (below_step (by repeat (first | (with_reducible first | exact HB.out | apply below_alloc | apply pw_below_drewN | apply below_drew1) | exact HB.out)) hb); clear HB; have HO103 := n0_; have HB := n1_; clear n0_ n1_; clear hb ho4))
  go_loopg [5, 6] k (fun kq v5 v6 w' => ∃ (x5_1 : List (S40)) (x6_1 : Int), v6 = .int .i64 x6_1 ∧ Aside0 (tarnlaw40_near.l0 kq l0 a1 x5_1 x6_1 = some r) ∧ Aside0 (kq ≤ k) ∧ Aside0 (Kd.R k40 40 w' w.heap.size (fun _ => True) v5 x5_1) ∧ Aside0 (Below w.heap.size w w'))
  case atStart => exact ⟨(y101), (0), (by first | rfl | (simp; done) | (simp [*]; done)), H', ⟨Nat.le_refl _⟩, ⟨by (with_reducible repeat (first | apply Kd.R_alloc | apply Kd.R_drewN | apply Kd.R_drew)); exact HO103.out⟩, ⟨by repeat (first | (with_reducible first | exact HB.out | apply below_alloc | apply pw_below_drewN | apply below_drew1) | exact HB.out)⟩⟩
  case round =>
    clear H'
    try clear c1
    try clear p2
    obtain ⟨x5_1, x6_1, rfl, HA, HK1, HO_5, HB⟩ := hrel
    cases gk with
    | zero => exact absurd HA.out (by simp [tarnlaw40_near.l0])
    | succ k1 =>
      have H := HA.out
      clear HA
      simp only [tarnlaw40_near.l0] at H
      have HC5 := Aside0.mk H
      clear H
      go_upto_region 3 with (fail)
      go_cut [16] (fun v16 wc => ∃ (kq : Nat) (x16_4 : Bool), v16 = .bool x16_4 ∧ Aside0 (tarnlaw40_near.j1 kq l0 a1 x5_1 x6_1 x16_4 = some r) ∧ Aside0 (kq ≤ k1) ∧ Aside0 (Kd.R k40 40 wc w.heap.size (fun _ => True) u5 x5_1) ∧ Aside0 (Below w.heap.size w wc))
      case first =>
        have H := HC5.out
        clear HC5
        by_cases c6 : x6_1 < (l0.length : Int)
        · rw [if_pos c6] at H
          have c6b0 : decide (x6_1 < (l0.length : Int)) = true := decide_eq_true c6
          clear c6
          (first | rw [c6b0] | (simp only [i64_w, i32_w]; rw [c6b0]) | rw [c6b1] | skip)
          have H' := Aside0.mk H
          clear H
          go_wp2
          go_meet
          case rel => exact ⟨_, (decide (x6_1 < 7)), (by first | rfl | (simp; done) | (simp [*]; done)), H', ⟨by have := HK1.out; first | omega | exact Nat.le_refl _⟩, ⟨by (with_reducible repeat (first | apply Kd.R_alloc | apply Kd.R_drewN | apply Kd.R_drew)); exact HO_5.out⟩, ⟨by repeat (first | (with_reducible first | exact HB.out | apply below_alloc | apply pw_below_drewN | apply below_drew1) | exact HB.out)⟩⟩
        · rw [if_neg c6] at H
          have c6b0 : decide (x6_1 < (l0.length : Int)) = false := decide_eq_false c6
          clear c6
          (first | rw [c6b0] | (simp only [i64_w, i32_w]; rw [c6b0]) | rw [c6b1] | skip)
          have H' := Aside0.mk H
          clear H
          go_wp2
          go_meet
          case rel => exact ⟨_, (false), (by first | rfl | (simp; done) | (simp [*]; done)), H', ⟨by have := HK1.out; first | omega | exact Nat.le_refl _⟩, ⟨by (with_reducible repeat (first | apply Kd.R_alloc | apply Kd.R_drewN | apply Kd.R_drew)); exact HO_5.out⟩, ⟨by repeat (first | (with_reducible first | exact HB.out | apply below_alloc | apply pw_below_drewN | apply below_drew1) | exact HB.out)⟩⟩
      case rest =>
        clear HC5
        try clear c1
        try clear p2
        try clear c6
        try clear c6b0
        try clear c6b1
        try clear p2
        obtain ⟨kq, x16_4, rfl, HA, HJ4, HO_5, HB⟩ := hcut
        cases kq with
        | zero => exact absurd HA.out (by simp [tarnlaw40_near.j1])
        | succ kj4 =>
          have H := HA.out
          clear HA
          simp only [tarnlaw40_near.j1] at H
          by_cases c7 : x16_4 = true
          · subst c7
            have H1 : (if 0 ≤ x6_1 then (if x6_1 < (l0.length : Int) then (if (Go.bits .and .i64 (((rd_T40 l0 x6_1).f3) / 8) 7) = 7 then (tarnlaw40_near.j2 kj4 l0 a1 x5_1 x6_1 ((rd_T40 l0 x6_1).f0) (⟨#[]⟩ : ByteArray) (Go.bits .and .i64 ((rd_T40 l0 x6_1).f2) 15) 1073741824) else (tarnlaw40_near.j2 kj4 l0 a1 x5_1 x6_1 ((rd_T40 l0 x6_1).f0) (⟨#[]⟩ : ByteArray) (Go.bits .and .i64 ((rd_T40 l0 x6_1).f2) 15) (wrap64 ((wrap64 ((Go.bits .and .i64 ((rd_T40 l0 x6_1).f2) 15) + 1)) + (Go.bits .and .i64 ((rd_T40 l0 x6_1).f3) 7))))) else (none)) else (none)) = some r := by rw [if_pos rfl] at H; exact H
            clear H
            have H := H1
            clear H1
            by_cases c8 : 0 ≤ x6_1
            · rw [if_pos c8] at H
              have c8b0 : decide (0 ≤ x6_1) = true := decide_eq_true c8
              clear c8
              by_cases c9 : x6_1 < (l0.length : Int)
              · rw [if_pos c9] at H
                have c9b0 : decide (x6_1 < (l0.length : Int)) = true := decide_eq_true c9
                clear c9
                have HC10 := Aside0.mk H
                clear H
                try go_wp2
                have n0_ := Aside0.mk (Kd.R_drew HO_5.out)
                have n1_ := Aside0.mk (below_drew1 HB.out)
                clear HO_5
                clear HB
                have HO_5 := n0_
                have HB := n1_
                clear n0_ n1_
                have p104 : 0 ≤ (x6_1 : Int) := of_decide_eq_true (by first | (with_reducible assumption) | assumption)
                have q104 : x6_1 < (l0.length : Int) := of_decide_eq_true (by first | (with_reducible assumption) | assumption)
                obtain ⟨ad104, e104, hx104_0, hx104_1, hx104_2, hx104_3⟩ := at_T40 HR0.out x6_1 p104 q104
                have hw104_3 := hx104_3
                have hw104_2 := hx104_2
                have hw104_1 := hx104_1
                have hw104_0 := hx104_0
                cases e104
                replace hx104_0 := (HB.out.cell (World.block_lt_of_cell? w _ hx104_0)).trans hx104_0
                replace hx104_1 := (HB.out.cell (World.block_lt_of_cell? w _ hx104_1)).trans hx104_1
                replace hx104_2 := (HB.out.cell (World.block_lt_of_cell? w _ hx104_2)).trans hx104_2
                replace hx104_3 := (HB.out.cell (World.block_lt_of_cell? w _ hx104_3)).trans hx104_3
                replace p104 := eq_true p104
                replace q104 := eq_true q104
                have p105 : 0 ≤ (x6_1 : Int) := of_decide_eq_true (by first | (with_reducible assumption) | assumption)
                have q105 : x6_1 < (l0.length : Int) := of_decide_eq_true (by first | (with_reducible assumption) | assumption)
                obtain ⟨ad105, e105, hx105_0, hx105_1, hx105_2, hx105_3⟩ := at_T40 HR0.out x6_1 p105 q105
                have hw105_3 := hx105_3
                have hw105_2 := hx105_2
                have hw105_1 := hx105_1
                have hw105_0 := hx105_0
                obtain rfl : ad104 = ad105 := (by injection e105)
                replace hx105_0 := (HB.out.cell (World.block_lt_of_cell? w _ hx105_0)).trans hx105_0
                replace hx105_1 := (HB.out.cell (World.block_lt_of_cell? w _ hx105_1)).trans hx105_1
                replace hx105_2 := (HB.out.cell (World.block_lt_of_cell? w _ hx105_2)).trans hx105_2
                replace hx105_3 := (HB.out.cell (World.block_lt_of_cell? w _ hx105_3)).trans hx105_3
                replace p105 := eq_true p105
                replace q105 := eq_true q105
                refine start_ (n := 14) (S := fun w' => w'.cell? (ad104.add ((x6_1).toNat * 4)) = some (.bool ((rd_T40 l0 x6_1).f0)) ∧ w'.cell? ⟨(ad104.add ((x6_1).toNat * 4)).block, (ad104.add ((x6_1).toNat * 4)).off + 1, none⟩ = some (.string ((rd_T40 l0 x6_1).f1)) ∧ w'.cell? ⟨(ad104.add ((x6_1).toNat * 4)).block, (ad104.add ((x6_1).toNat * 4)).off + 2, none⟩ = some (.int .i64 ((rd_T40 l0 x6_1).f2)) ∧ w'.cell? ⟨(ad104.add ((x6_1).toNat * 4)).block, (ad104.add ((x6_1).toNat * 4)).off + 3, none⟩ = some (.int .i64 ((rd_T40 l0 x6_1).f3)) ∧ w'.cell? (ad104.add ((x6_1).toNat * 4)) = some (.bool ((rd_T40 l0 x6_1).f0)) ∧ w'.cell? ⟨(ad104.add ((x6_1).toNat * 4)).block, (ad104.add ((x6_1).toNat * 4)).off + 1, none⟩ = some (.string ((rd_T40 l0 x6_1).f1)) ∧ w'.cell? ⟨(ad104.add ((x6_1).toNat * 4)).block, (ad104.add ((x6_1).toNat * 4)).off + 2, none⟩ = some (.int .i64 ((rd_T40 l0 x6_1).f2)) ∧ w'.cell? ⟨(ad104.add ((x6_1).toNat * 4)).block, (ad104.add ((x6_1).toNat * 4)).off + 3, none⟩ = some (.int .i64 ((rd_T40 l0 x6_1).f3))) (ds := []) #[false, false, false, false, false, false, false, false, false, false, false, false, false, false] (by kernel_rfl) rfl rfl ⟨((HB.out.cell (World.block_lt_of_cell? w _ hw104_0)).trans hw104_0), ((HB.out.cell (World.block_lt_of_cell? w _ hw104_1)).trans hw104_1), ((HB.out.cell (World.block_lt_of_cell? w _ hw104_2)).trans hw104_2), ((HB.out.cell (World.block_lt_of_cell? w _ hw104_3)).trans hw104_3), ((HB.out.cell (World.block_lt_of_cell? w _ hw105_0)).trans hw105_0), ((HB.out.cell (World.block_lt_of_cell? w _ hw105_1)).trans hw105_1), ((HB.out.cell (World.block_lt_of_cell? w _ hw105_2)).trans hw105_2), ((HB.out.cell (World.block_lt_of_cell? w _ hw105_3)).trans hw105_3)⟩ (fun hHeld => ?_); refine with_tabW tarnlaw40_near.tab5 tarnlaw40_near.bits5 (fun HT_ HW_ => ?_)
                generalize wc.drew = w11 at HO_5 HB hx104_0 hx104_1 hx104_2 hx104_3 hx105_0 hx105_1 hx105_2 hx105_3 hHeld ⊢
                refine pure_ (i := 0) (N := some 19) (v := ?_) (a' := ?_) #[true, false, false, false, false, false, false, false, false, false, false, false, false, false] rfl rfl (any_of HT_.out (by kernel_rfl)) (fun _ _ _ h => h) (Or.inl ⟨by rfl, ?_⟩) ?_ ?_
                rotate_left
                · first | (intro w'; go_simp; with_reducible rfl) | (intro w'; refine Eq.trans (add_step (by rfl) (by rfl) (by rfl) (by assumption) w') ?_; with_reducible rfl) | (intro w'; refine Eq.trans (cut_hi_n Try.underlying9 (by rfl) (by rfl) (by rfl) (by first | assumption | exact of_eq_true (by assumption) | exact of_decide_eq_true (by assumption) | omega) w') ?_; with_reducible rfl) | (intro w'; refine Eq.trans (cut_hi Try.underlying9 (by rfl) (by rfl) (by rfl) (by first | assumption | exact of_eq_true (by assumption) | exact of_decide_eq_true (by assumption) | omega) (by first | assumption | exact of_eq_true (by assumption) | exact of_decide_eq_true (by assumption) | omega) w') ?_; with_reducible rfl) | (intro w'; refine Eq.trans (cut_lo Try.underlying9 (by rfl) (by rfl) (by rfl) (by first | assumption | exact of_eq_true (by assumption) | exact of_decide_eq_true (by assumption) | omega) (by first | assumption | exact of_eq_true (by assumption) | exact of_decide_eq_true (by assumption) | omega) w') ?_; with_reducible rfl) | (intro w'; refine Eq.trans (cut_both Try.underlying9 (by rfl) (by rfl) (by rfl) (by rfl) (by first | assumption | exact of_eq_true (by assumption) | exact of_decide_eq_true (by assumption) | omega) (by first | assumption | exact of_eq_true (by assumption) | exact of_decide_eq_true (by assumption) | omega) (by first | assumption | exact of_eq_true (by assumption) | exact of_decide_eq_true (by assumption) | omega) w') ?_; with_reducible rfl)
                rotate_left
                · simp only [Act.put, List.setIfInBounds_toArray, List.set_cons_zero, List.set_cons_succ, i64_w, i32_w]
                  rfl
                refine pure_ (i := 1) (N := some 20) (v := ?_) (a' := ?_) #[true, true, false, false, false, false, false, false, false, false, false, false, false, false] rfl rfl (any_of HT_.out (by kernel_rfl)) (fun _ _ _ h => h) (Or.inl ⟨by rfl, ?_⟩) ?_ ?_
                rotate_left
                · first | (intro w'; go_simp; with_reducible rfl) | (intro w'; refine Eq.trans (add_step (by rfl) (by rfl) (by rfl) (by assumption) w') ?_; with_reducible rfl) | (intro w'; refine Eq.trans (cut_hi_n Try.underlying9 (by rfl) (by rfl) (by rfl) (by first | assumption | exact of_eq_true (by assumption) | exact of_decide_eq_true (by assumption) | omega) w') ?_; with_reducible rfl) | (intro w'; refine Eq.trans (cut_hi Try.underlying9 (by rfl) (by rfl) (by rfl) (by first | assumption | exact of_eq_true (by assumption) | exact of_decide_eq_true (by assumption) | omega) (by first | assumption | exact of_eq_true (by assumption) | exact of_decide_eq_true (by assumption) | omega) w') ?_; with_reducible rfl) | (intro w'; refine Eq.trans (cut_lo Try.underlying9 (by rfl) (by rfl) (by rfl) (by first | assumption | exact of_eq_true (by assumption) | exact of_decide_eq_true (by assumption) | omega) (by first | assumption | exact of_eq_true (by assumption) | exact of_decide_eq_true (by assumption) | omega) w') ?_; with_reducible rfl) | (intro w'; refine Eq.trans (cut_both Try.underlying9 (by rfl) (by rfl) (by rfl) (by rfl) (by first | assumption | exact of_eq_true (by assumption) | exact of_decide_eq_true (by assumption) | omega) (by first | assumption | exact of_eq_true (by assumption) | exact of_decide_eq_true (by assumption) | omega) (by first | assumption | exact of_eq_true (by assumption) | exact of_decide_eq_true (by assumption) | omega) w') ?_; with_reducible rfl)
                rotate_left
                · simp only [Act.put, List.setIfInBounds_toArray, List.set_cons_zero, List.set_cons_succ, i64_w, i32_w]
                  rfl
                refine pure_ (i := 2) (N := some 21) (v := ?_) (a' := ?_) #[true, true, true, false, false, false, false, false, false, false, false, false, false, false] rfl rfl (any_of HT_.out (by kernel_rfl)) (fun _ _ _ h => h) (Or.inl ⟨by rfl, ?_⟩) ?_ ?_
                rotate_left
                · first | (intro w'; go_simp; with_reducible rfl) | (intro w'; refine Eq.trans (add_step (by rfl) (by rfl) (by rfl) (by assumption) w') ?_; with_reducible rfl) | (intro w'; refine Eq.trans (cut_hi_n Try.underlying9 (by rfl) (by rfl) (by rfl) (by first | assumption | exact of_eq_true (by assumption) | exact of_decide_eq_true (by assumption) | omega) w') ?_; with_reducible rfl) | (intro w'; refine Eq.trans (cut_hi Try.underlying9 (by rfl) (by rfl) (by rfl) (by first | assumption | exact of_eq_true (by assumption) | exact of_decide_eq_true (by assumption) | omega) (by first | assumption | exact of_eq_true (by assumption) | exact of_decide_eq_true (by assumption) | omega) w') ?_; with_reducible rfl) | (intro w'; refine Eq.trans (cut_lo Try.underlying9 (by rfl) (by rfl) (by rfl) (by first | assumption | exact of_eq_true (by assumption) | exact of_decide_eq_true (by assumption) | omega) (by first | assumption | exact of_eq_true (by assumption) | exact of_decide_eq_true (by assumption) | omega) w') ?_; with_reducible rfl) | (intro w'; refine Eq.trans (cut_both Try.underlying9 (by rfl) (by rfl) (by rfl) (by rfl) (by first | assumption | exact of_eq_true (by assumption) | exact of_decide_eq_true (by assumption) | omega) (by first | assumption | exact of_eq_true (by assumption) | exact of_decide_eq_true (by assumption) | omega) (by first | assumption | exact of_eq_true (by assumption) | exact of_decide_eq_true (by assumption) | omega) w') ?_; with_reducible rfl)
                rotate_left
                · simp only [Act.put, List.setIfInBounds_toArray, List.set_cons_zero, List.set_cons_succ, i64_w, i32_w]
                  rfl
                refine pure_ (i := 3) (N := some 22) (v := ?_) (a' := ?_) #[true, true, true, true, false, false, false, false, false, false, false, false, false, false] rfl rfl (any_of HT_.out (by kernel_rfl)) (fun _ _ _ h => h) (Or.inl ⟨by rfl, ?_⟩) ?_ ?_
                rotate_left
                · first | (intro w'; go_simp; with_reducible rfl) | (intro w'; refine Eq.trans (add_step (by rfl) (by rfl) (by rfl) (by assumption) w') ?_; with_reducible rfl) | (intro w'; refine Eq.trans (cut_hi_n Try.underlying9 (by rfl) (by rfl) (by rfl) (by first | assumption | exact of_eq_true (by assumption) | exact of_decide_eq_true (by assumption) | omega) w') ?_; with_reducible rfl) | (intro w'; refine Eq.trans (cut_hi Try.underlying9 (by rfl) (by rfl) (by rfl) (by first | assumption | exact of_eq_true (by assumption) | exact of_decide_eq_true (by assumption) | omega) (by first | assumption | exact of_eq_true (by assumption) | exact of_decide_eq_true (by assumption) | omega) w') ?_; with_reducible rfl) | (intro w'; refine Eq.trans (cut_lo Try.underlying9 (by rfl) (by rfl) (by rfl) (by first | assumption | exact of_eq_true (by assumption) | exact of_decide_eq_true (by assumption) | omega) (by first | assumption | exact of_eq_true (by assumption) | exact of_decide_eq_true (by assumption) | omega) w') ?_; with_reducible rfl) | (intro w'; refine Eq.trans (cut_both Try.underlying9 (by rfl) (by rfl) (by rfl) (by rfl) (by first | assumption | exact of_eq_true (by assumption) | exact of_decide_eq_true (by assumption) | omega) (by first | assumption | exact of_eq_true (by assumption) | exact of_decide_eq_true (by assumption) | omega) (by first | assumption | exact of_eq_true (by assumption) | exact of_decide_eq_true (by assumption) | omega) w') ?_; with_reducible rfl)
                rotate_left
                · simp only [Act.put, List.setIfInBounds_toArray, List.set_cons_zero, List.set_cons_succ, i64_w, i32_w]
                  rfl
                refine pure_ (i := 5) (N := some 24) (v := ?_) (a' := ?_) #[true, true, true, true, false, true, false, false, false, false, false, false, false, false] rfl rfl (any_of HT_.out (by kernel_rfl)) (fun _ _ _ h => h) (Or.inl ⟨by rfl, ?_⟩) ?_ ?_
                rotate_left
                · first | (intro w'; go_simp; with_reducible rfl) | (intro w'; refine Eq.trans (add_step (by rfl) (by rfl) (by rfl) (by assumption) w') ?_; with_reducible rfl) | (intro w'; refine Eq.trans (cut_hi_n Try.underlying9 (by rfl) (by rfl) (by rfl) (by first | assumption | exact of_eq_true (by assumption) | exact of_decide_eq_true (by assumption) | omega) w') ?_; with_reducible rfl) | (intro w'; refine Eq.trans (cut_hi Try.underlying9 (by rfl) (by rfl) (by rfl) (by first | assumption | exact of_eq_true (by assumption) | exact of_decide_eq_true (by assumption) | omega) (by first | assumption | exact of_eq_true (by assumption) | exact of_decide_eq_true (by assumption) | omega) w') ?_; with_reducible rfl) | (intro w'; refine Eq.trans (cut_lo Try.underlying9 (by rfl) (by rfl) (by rfl) (by first | assumption | exact of_eq_true (by assumption) | exact of_decide_eq_true (by assumption) | omega) (by first | assumption | exact of_eq_true (by assumption) | exact of_decide_eq_true (by assumption) | omega) w') ?_; with_reducible rfl) | (intro w'; refine Eq.trans (cut_both Try.underlying9 (by rfl) (by rfl) (by rfl) (by rfl) (by first | assumption | exact of_eq_true (by assumption) | exact of_decide_eq_true (by assumption) | omega) (by first | assumption | exact of_eq_true (by assumption) | exact of_decide_eq_true (by assumption) | omega) (by first | assumption | exact of_eq_true (by assumption) | exact of_decide_eq_true (by assumption) | omega) w') ?_; with_reducible rfl)
                rotate_left
                · simp only [Act.put, List.setIfInBounds_toArray, List.set_cons_zero, List.set_cons_succ, i64_w, i32_w]
                  rfl
                refine pure_ (i := 6) (N := some 25) (v := ?_) (a' := ?_) #[true, true, true, true, false, true, true, false, false, false, false, false, false, false] rfl rfl (any_of HT_.out (by kernel_rfl)) (fun _ _ _ h => h) (Or.inl ⟨by rfl, ?_⟩) ?_ ?_
                rotate_left
                · first | (intro w'; go_simp; with_reducible rfl) | (intro w'; refine Eq.trans (add_step (by rfl) (by rfl) (by rfl) (by assumption) w') ?_; with_reducible rfl) | (intro w'; refine Eq.trans (cut_hi_n Try.underlying9 (by rfl) (by rfl) (by rfl) (by first | assumption | exact of_eq_true (by assumption) | exact of_decide_eq_true (by assumption) | omega) w') ?_; with_reducible rfl) | (intro w'; refine Eq.trans (cut_hi Try.underlying9 (by rfl) (by rfl) (by rfl) (by first | assumption | exact of_eq_true (by assumption) | exact of_decide_eq_true (by assumption) | omega) (by first | assumption | exact of_eq_true (by assumption) | exact of_decide_eq_true (by assumption) | omega) w') ?_; with_reducible rfl) | (intro w'; refine Eq.trans (cut_lo Try.underlying9 (by rfl) (by rfl) (by rfl) (by first | assumption | exact of_eq_true (by assumption) | exact of_decide_eq_true (by assumption) | omega) (by first | assumption | exact of_eq_true (by assumption) | exact of_decide_eq_true (by assumption) | omega) w') ?_; with_reducible rfl) | (intro w'; refine Eq.trans (cut_both Try.underlying9 (by rfl) (by rfl) (by rfl) (by rfl) (by first | assumption | exact of_eq_true (by assumption) | exact of_decide_eq_true (by assumption) | omega) (by first | assumption | exact of_eq_true (by assumption) | exact of_decide_eq_true (by assumption) | omega) (by first | assumption | exact of_eq_true (by assumption) | exact of_decide_eq_true (by assumption) | omega) w') ?_; with_reducible rfl)
                rotate_left
                · simp only [Act.put, List.setIfInBounds_toArray, List.set_cons_zero, List.set_cons_succ, i64_w, i32_w]
                  rfl
                refine pure_ (i := 7) (N := some 26) (v := ?_) (a' := ?_) #[true, true, true, true, false, true, true, true, false, false, false, false, false, false] rfl rfl (any_of HT_.out (by kernel_rfl)) (fun _ _ _ h => h) (Or.inl ⟨by rfl, ?_⟩) ?_ ?_
                rotate_left
                · first | (intro w'; go_simp; with_reducible rfl) | (intro w'; refine Eq.trans (add_step (by rfl) (by rfl) (by rfl) (by assumption) w') ?_; with_reducible rfl) | (intro w'; refine Eq.trans (cut_hi_n Try.underlying9 (by rfl) (by rfl) (by rfl) (by first | assumption | exact of_eq_true (by assumption) | exact of_decide_eq_true (by assumption) | omega) w') ?_; with_reducible rfl) | (intro w'; refine Eq.trans (cut_hi Try.underlying9 (by rfl) (by rfl) (by rfl) (by first | assumption | exact of_eq_true (by assumption) | exact of_decide_eq_true (by assumption) | omega) (by first | assumption | exact of_eq_true (by assumption) | exact of_decide_eq_true (by assumption) | omega) w') ?_; with_reducible rfl) | (intro w'; refine Eq.trans (cut_lo Try.underlying9 (by rfl) (by rfl) (by rfl) (by first | assumption | exact of_eq_true (by assumption) | exact of_decide_eq_true (by assumption) | omega) (by first | assumption | exact of_eq_true (by assumption) | exact of_decide_eq_true (by assumption) | omega) w') ?_; with_reducible rfl) | (intro w'; refine Eq.trans (cut_both Try.underlying9 (by rfl) (by rfl) (by rfl) (by rfl) (by first | assumption | exact of_eq_true (by assumption) | exact of_decide_eq_true (by assumption) | omega) (by first | assumption | exact of_eq_true (by assumption) | exact of_decide_eq_true (by assumption) | omega) (by first | assumption | exact of_eq_true (by assumption) | exact of_decide_eq_true (by assumption) | omega) w') ?_; with_reducible rfl)
                rotate_left
                · simp only [Act.put, List.setIfInBounds_toArray, List.set_cons_zero, List.set_cons_succ, i64_w, i32_w]
                  rfl
                refine pure_ (i := 8) (N := some 27) (v := ?_) (a' := ?_) #[true, true, true, true, false, true, true, true, true, false, false, false, false, false] rfl rfl (any_of HT_.out (by kernel_rfl)) (fun _ _ _ h => h) (Or.inl ⟨by rfl, ?_⟩) ?_ ?_
                rotate_left
                · first | (intro w'; go_simp; with_reducible rfl) | (intro w'; refine Eq.trans (add_step (by rfl) (by rfl) (by rfl) (by assumption) w') ?_; with_reducible rfl) | (intro w'; refine Eq.trans (cut_hi_n Try.underlying9 (by rfl) (by rfl) (by rfl) (by first | assumption | exact of_eq_true (by assumption) | exact of_decide_eq_true (by assumption) | omega) w') ?_; with_reducible rfl) | (intro w'; refine Eq.trans (cut_hi Try.underlying9 (by rfl) (by rfl) (by rfl) (by first | assumption | exact of_eq_true (by assumption) | exact of_decide_eq_true (by assumption) | omega) (by first | assumption | exact of_eq_true (by assumption) | exact of_decide_eq_true (by assumption) | omega) w') ?_; with_reducible rfl) | (intro w'; refine Eq.trans (cut_lo Try.underlying9 (by rfl) (by rfl) (by rfl) (by first | assumption | exact of_eq_true (by assumption) | exact of_decide_eq_true (by assumption) | omega) (by first | assumption | exact of_eq_true (by assumption) | exact of_decide_eq_true (by assumption) | omega) w') ?_; with_reducible rfl) | (intro w'; refine Eq.trans (cut_both Try.underlying9 (by rfl) (by rfl) (by rfl) (by rfl) (by first | assumption | exact of_eq_true (by assumption) | exact of_decide_eq_true (by assumption) | omega) (by first | assumption | exact of_eq_true (by assumption) | exact of_decide_eq_true (by assumption) | omega) (by first | assumption | exact of_eq_true (by assumption) | exact of_decide_eq_true (by assumption) | omega) w') ?_; with_reducible rfl)
                rotate_left
                · simp only [Act.put, List.setIfInBounds_toArray, List.set_cons_zero, List.set_cons_succ, i64_w, i32_w]
                  rfl
                refine take_ (i := 4) (N := some 23) (v := ?_) (a' := ?_) #[true, true, true, true, true, true, true, true, true, false, false, false, false, false] rfl rfl (take_ofW HT_.out HW_.out (by kernel_rfl)) (fun _ _ _ h => h) (Or.inl ⟨by rfl, ?_⟩) hHeld ?_ ?_
                rotate_left
                · rintro w' ⟨s0, s1, s2, s3, s4, s5, s6, s7⟩
                  go_simp
                  with_reducible rfl
                rotate_left
                · simp only [Act.put, List.setIfInBounds_toArray, List.set_cons_zero, List.set_cons_succ, i64_w, i32_w]
                  rfl
                refine take_ (i := 9) (N := some 28) (v := ?_) (a' := ?_) #[true, true, true, true, true, true, true, true, true, true, false, false, false, false] rfl rfl (take_ofW HT_.out HW_.out (by kernel_rfl)) (fun _ _ _ h => h) (Or.inl ⟨by rfl, ?_⟩) hHeld ?_ ?_
                rotate_left
                · rintro w' ⟨s0, s1, s2, s3, s4, s5, s6, s7⟩
                  go_simp
                  with_reducible rfl
                rotate_left
                · simp only [Act.put, List.setIfInBounds_toArray, List.set_cons_zero, List.set_cons_succ, i64_w, i32_w]
                  rfl
                refine pure_ (i := 10) (N := some 29) (v := ?_) (a' := ?_) #[true, true, true, true, true, true, true, true, true, true, true, false, false, false] rfl rfl (any_of HT_.out (by kernel_rfl)) (fun _ _ _ h => h) (Or.inl ⟨by rfl, ?_⟩) ?_ ?_
                rotate_left
                · first | (intro w'; go_simp; with_reducible rfl) | (intro w'; refine Eq.trans (add_step (by rfl) (by rfl) (by rfl) (by assumption) w') ?_; with_reducible rfl) | (intro w'; refine Eq.trans (cut_hi_n Try.underlying9 (by rfl) (by rfl) (by rfl) (by first | assumption | exact of_eq_true (by assumption) | exact of_decide_eq_true (by assumption) | omega) w') ?_; with_reducible rfl) | (intro w'; refine Eq.trans (cut_hi Try.underlying9 (by rfl) (by rfl) (by rfl) (by first | assumption | exact of_eq_true (by assumption) | exact of_decide_eq_true (by assumption) | omega) (by first | assumption | exact of_eq_true (by assumption) | exact of_decide_eq_true (by assumption) | omega) w') ?_; with_reducible rfl) | (intro w'; refine Eq.trans (cut_lo Try.underlying9 (by rfl) (by rfl) (by rfl) (by first | assumption | exact of_eq_true (by assumption) | exact of_decide_eq_true (by assumption) | omega) (by first | assumption | exact of_eq_true (by assumption) | exact of_decide_eq_true (by assumption) | omega) w') ?_; with_reducible rfl) | (intro w'; refine Eq.trans (cut_both Try.underlying9 (by rfl) (by rfl) (by rfl) (by rfl) (by first | assumption | exact of_eq_true (by assumption) | exact of_decide_eq_true (by assumption) | omega) (by first | assumption | exact of_eq_true (by assumption) | exact of_decide_eq_true (by assumption) | omega) (by first | assumption | exact of_eq_true (by assumption) | exact of_decide_eq_true (by assumption) | omega) w') ?_; with_reducible rfl)
                rotate_left
                · simp only [Act.put, List.setIfInBounds_toArray, List.set_cons_zero, List.set_cons_succ, i64_w, i32_w]
                  rfl
                refine pure_ (i := 11) (N := some 30) (v := ?_) (a' := ?_) #[true, true, true, true, true, true, true, true, true, true, true, true, false, false] rfl rfl (any_of HT_.out (by kernel_rfl)) (fun _ _ _ h => h) (Or.inl ⟨by rfl, ?_⟩) ?_ ?_
                rotate_left
                · first | (intro w'; go_simp; with_reducible rfl) | (intro w'; refine Eq.trans (add_step (by rfl) (by rfl) (by rfl) (by assumption) w') ?_; with_reducible rfl) | (intro w'; refine Eq.trans (cut_hi_n Try.underlying9 (by rfl) (by rfl) (by rfl) (by first | assumption | exact of_eq_true (by assumption) | exact of_decide_eq_true (by assumption) | omega) w') ?_; with_reducible rfl) | (intro w'; refine Eq.trans (cut_hi Try.underlying9 (by rfl) (by rfl) (by rfl) (by first | assumption | exact of_eq_true (by assumption) | exact of_decide_eq_true (by assumption) | omega) (by first | assumption | exact of_eq_true (by assumption) | exact of_decide_eq_true (by assumption) | omega) w') ?_; with_reducible rfl) | (intro w'; refine Eq.trans (cut_lo Try.underlying9 (by rfl) (by rfl) (by rfl) (by first | assumption | exact of_eq_true (by assumption) | exact of_decide_eq_true (by assumption) | omega) (by first | assumption | exact of_eq_true (by assumption) | exact of_decide_eq_true (by assumption) | omega) w') ?_; with_reducible rfl) | (intro w'; refine Eq.trans (cut_both Try.underlying9 (by rfl) (by rfl) (by rfl) (by rfl) (by first | assumption | exact of_eq_true (by assumption) | exact of_decide_eq_true (by assumption) | omega) (by first | assumption | exact of_eq_true (by assumption) | exact of_decide_eq_true (by assumption) | omega) (by first | assumption | exact of_eq_true (by assumption) | exact of_decide_eq_true (by assumption) | omega) w') ?_; with_reducible rfl)
                rotate_left
                · simp only [Act.put, List.setIfInBounds_toArray, List.set_cons_zero, List.set_cons_succ, i64_w, i32_w]
                  rfl
                refine one_ (i := 12) (N := some 7) #[true, true, true, true, true, true, true, true, true, true, true, true, true, false] rfl rfl (one_of HT_.out (by kernel_rfl)) (by decide) (fun K hK => ?_)
                refine box_step ?hg (N := 7) ?hd (cs := #[.bool false, .string (⟨#[]⟩ : ByteArray), .int .i64 0, .int .i64 0]) (t := 40) ?hr ?_; (case hd => rfl); (case hg => rfl); (case hr => first | (go_simp; done) | (go_simp; rfl))
                intro gb106 hg w12 hbox hb
                have n0_ := Aside0.mk (Kd.R_below (Kd.R_elderB (by (with_reducible repeat (first | apply Kd.R_alloc | apply Kd.R_drewN | apply Kd.R_drew)); exact HO_5.out) gb106 (Nat.le_of_eq hg.symm)) hb)
                have n1_ := Aside0.mk (below_step (by repeat (first | (with_reducible first | exact HB.out | apply below_alloc | apply pw_below_drewN | apply below_drew1) | exact HB.out)) hb)
                have n2_ := Aside0.mk (hbox)
                have n3_ := Aside0.mk ((by rw [hg]; exact (below_size (by repeat (first | (with_reducible first | exact HB.out | apply below_alloc | apply pw_below_drewN | apply below_drew1) | exact HB.out))) : w.heap.size ≤ gb106))
                have n4_ := Aside0.mk ((by rw [hg]; exact (below_size (by repeat (first | (with_reducible first | exact HB.out | apply below_alloc | apply pw_below_drewN | apply below_drew1) | exact HB.out))) : w.heap.size ≤ gb106))
                clear HO_5
                clear HB
                have HO_5 := n0_
                have HB := n1_
                have BK106 := n2_
                have GW106 := n3_
                have GE106 := n4_
                clear n0_ n1_ n2_ n3_ n4_
                clear hb hbox hg
                refine hK.out _ _ ⟨((HB.out.cell (World.block_lt_of_cell? w _ hw104_0)).trans hw104_0), ((HB.out.cell (World.block_lt_of_cell? w _ hw104_1)).trans hw104_1), ((HB.out.cell (World.block_lt_of_cell? w _ hw104_2)).trans hw104_2), ((HB.out.cell (World.block_lt_of_cell? w _ hw104_3)).trans hw104_3), ((HB.out.cell (World.block_lt_of_cell? w _ hw105_0)).trans hw105_0), ((HB.out.cell (World.block_lt_of_cell? w _ hw105_1)).trans hw105_1), ((HB.out.cell (World.block_lt_of_cell? w _ hw105_2)).trans hw105_2), ((HB.out.cell (World.block_lt_of_cell? w _ hw105_3)).trans hw105_3)⟩ (fun hHeld => ?_)
                clear hK K
                refine norm_ (a' := ?_) ?_ ?_
                rotate_left
                · show Act.put _ (some 7) _ = _
                  simp only [Act.put, List.setIfInBounds_toArray, List.set_cons_zero, List.set_cons_succ, i64_w, i32_w]
                  rfl
                refine one_ (i := 13) (N := none) #[true, true, true, true, true, true, true, true, true, true, true, true, true, true] rfl rfl (one_of HT_.out (by kernel_rfl)) (by decide) (fun K hK => ?_)
                have hs13 : w12.cell? ⟨gb106, 0, none⟩ = some (.bool false) := (blk_cell BK106.out 0).trans rfl
                have hfs13 := blk_frozen BK106.out 0
                have hs14 : w12.cell? ⟨gb106, 1, none⟩ = some (.string (⟨#[]⟩ : ByteArray)) := (blk_cell BK106.out 1).trans rfl
                have hfs14 := blk_frozen BK106.out 1
                have hs15 : w12.cell? ⟨gb106, 2, none⟩ = some (.int .i64 0) := (blk_cell BK106.out 2).trans rfl
                have hfs15 := blk_frozen BK106.out 2
                have hs16 : w12.cell? ⟨gb106, 3, none⟩ = some (.int .i64 0) := (blk_cell BK106.out 3).trans rfl
                have hfs16 := blk_frozen BK106.out 3
                refine skip_ (w1 := ?_) (by rfl) rfl ?_ ?_
                rotate_left
                · go_simp
                  rfl
                refine hK.out _ _ ⟨((cell_far (p := ⟨gb106, _, none⟩) (by first | exact Nat.ne_of_lt (Nat.lt_of_lt_of_le (by have := World.block_lt_of_cell? _ _ hw104_0; first | rwa [add_block] at this | exact this) GW106.out) | (rw [add_block]; exact Nat.ne_of_lt (Nat.lt_of_lt_of_le (by have := World.block_lt_of_cell? _ _ hw104_0; first | rwa [add_block] at this | exact this) GW106.out)) | (show (Addr.add _ _).block ≠ _; rw [add_block]; exact Nat.ne_of_lt (Nat.lt_of_lt_of_le (by have := World.block_lt_of_cell? _ _ hw104_0; first | rwa [add_block] at this | exact this) GW106.out)) | (dsimp only; exact Nat.ne_of_lt (Nat.lt_of_lt_of_le (by have := World.block_lt_of_cell? _ _ hw104_0; first | rwa [add_block] at this | exact this) GW106.out))) _).trans (((cell_far (p := ⟨gb106, _, none⟩) (by first | exact Nat.ne_of_lt (Nat.lt_of_lt_of_le (by have := World.block_lt_of_cell? _ _ hw104_0; first | rwa [add_block] at this | exact this) GW106.out) | (rw [add_block]; exact Nat.ne_of_lt (Nat.lt_of_lt_of_le (by have := World.block_lt_of_cell? _ _ hw104_0; first | rwa [add_block] at this | exact this) GW106.out)) | (show (Addr.add _ _).block ≠ _; rw [add_block]; exact Nat.ne_of_lt (Nat.lt_of_lt_of_le (by have := World.block_lt_of_cell? _ _ hw104_0; first | rwa [add_block] at this | exact this) GW106.out)) | (dsimp only; exact Nat.ne_of_lt (Nat.lt_of_lt_of_le (by have := World.block_lt_of_cell? _ _ hw104_0; first | rwa [add_block] at this | exact this) GW106.out))) _).trans (((cell_far (p := ⟨gb106, _, none⟩) (by first | exact Nat.ne_of_lt (Nat.lt_of_lt_of_le (by have := World.block_lt_of_cell? _ _ hw104_0; first | rwa [add_block] at this | exact this) GW106.out) | (rw [add_block]; exact Nat.ne_of_lt (Nat.lt_of_lt_of_le (by have := World.block_lt_of_cell? _ _ hw104_0; first | rwa [add_block] at this | exact this) GW106.out)) | (show (Addr.add _ _).block ≠ _; rw [add_block]; exact Nat.ne_of_lt (Nat.lt_of_lt_of_le (by have := World.block_lt_of_cell? _ _ hw104_0; first | rwa [add_block] at this | exact this) GW106.out)) | (dsimp only; exact Nat.ne_of_lt (Nat.lt_of_lt_of_le (by have := World.block_lt_of_cell? _ _ hw104_0; first | rwa [add_block] at this | exact this) GW106.out))) _).trans (((cell_far (p := ⟨gb106, _, none⟩) (by first | exact Nat.ne_of_lt (Nat.lt_of_lt_of_le (by have := World.block_lt_of_cell? _ _ hw104_0; first | rwa [add_block] at this | exact this) GW106.out) | (rw [add_block]; exact Nat.ne_of_lt (Nat.lt_of_lt_of_le (by have := World.block_lt_of_cell? _ _ hw104_0; first | rwa [add_block] at this | exact this) GW106.out)) | (show (Addr.add _ _).block ≠ _; rw [add_block]; exact Nat.ne_of_lt (Nat.lt_of_lt_of_le (by have := World.block_lt_of_cell? _ _ hw104_0; first | rwa [add_block] at this | exact this) GW106.out)) | (dsimp only; exact Nat.ne_of_lt (Nat.lt_of_lt_of_le (by have := World.block_lt_of_cell? _ _ hw104_0; first | rwa [add_block] at this | exact this) GW106.out))) _).trans (hHeld.1)))))))), ((cell_far (p := ⟨gb106, _, none⟩) (by first | exact Nat.ne_of_lt (Nat.lt_of_lt_of_le (by have := World.block_lt_of_cell? _ _ hw104_1; first | rwa [add_block] at this | exact this) GW106.out) | (rw [add_block]; exact Nat.ne_of_lt (Nat.lt_of_lt_of_le (by have := World.block_lt_of_cell? _ _ hw104_1; first | rwa [add_block] at this | exact this) GW106.out)) | (show (Addr.add _ _).block ≠ _; rw [add_block]; exact Nat.ne_of_lt (Nat.lt_of_lt_of_le (by have := World.block_lt_of_cell? _ _ hw104_1; first | rwa [add_block] at this | exact this) GW106.out)) | (dsimp only; exact Nat.ne_of_lt (Nat.lt_of_lt_of_le (by have := World.block_lt_of_cell? _ _ hw104_1; first | rwa [add_block] at this | exact this) GW106.out))) _).trans (((cell_far (p := ⟨gb106, _, none⟩) (by first | exact Nat.ne_of_lt (Nat.lt_of_lt_of_le (by have := World.block_lt_of_cell? _ _ hw104_1; first | rwa [add_block] at this | exact this) GW106.out) | (rw [add_block]; exact Nat.ne_of_lt (Nat.lt_of_lt_of_le (by have := World.block_lt_of_cell? _ _ hw104_1; first | rwa [add_block] at this | exact this) GW106.out)) | (show (Addr.add _ _).block ≠ _; rw [add_block]; exact Nat.ne_of_lt (Nat.lt_of_lt_of_le (by have := World.block_lt_of_cell? _ _ hw104_1; first | rwa [add_block] at this | exact this) GW106.out)) | (dsimp only; exact Nat.ne_of_lt (Nat.lt_of_lt_of_le (by have := World.block_lt_of_cell? _ _ hw104_1; first | rwa [add_block] at this | exact this) GW106.out))) _).trans (((cell_far (p := ⟨gb106, _, none⟩) (by first | exact Nat.ne_of_lt (Nat.lt_of_lt_of_le (by have := World.block_lt_of_cell? _ _ hw104_1; first | rwa [add_block] at this | exact this) GW106.out) | (rw [add_block]; exact Nat.ne_of_lt (Nat.lt_of_lt_of_le (by have := World.block_lt_of_cell? _ _ hw104_1; first | rwa [add_block] at this | exact this) GW106.out)) | (show (Addr.add _ _).block ≠ _; rw [add_block]; exact Nat.ne_of_lt (Nat.lt_of_lt_of_le (by have := World.block_lt_of_cell? _ _ hw104_1; first | rwa [add_block] at this | exact this) GW106.out)) | (dsimp only; exact Nat.ne_of_lt (Nat.lt_of_lt_of_le (by have := World.block_lt_of_cell? _ _ hw104_1; first | rwa [add_block] at this | exact this) GW106.out))) _).trans (((cell_far (p := ⟨gb106, _, none⟩) (by first | exact Nat.ne_of_lt (Nat.lt_of_lt_of_le (by have := World.block_lt_of_cell? _ _ hw104_1; first | rwa [add_block] at this | exact this) GW106.out) | (rw [add_block]; exact Nat.ne_of_lt (Nat.lt_of_lt_of_le (by have := World.block_lt_of_cell? _ _ hw104_1; first | rwa [add_block] at this | exact this) GW106.out)) | (show (Addr.add _ _).block ≠ _; rw [add_block]; exact Nat.ne_of_lt (Nat.lt_of_lt_of_le (by have := World.block_lt_of_cell? _ _ hw104_1; first | rwa [add_block] at this | exact this) GW106.out)) | (dsimp only; exact Nat.ne_of_lt (Nat.lt_of_lt_of_le (by have := World.block_lt_of_cell? _ _ hw104_1; first | rwa [add_block] at this | exact this) GW106.out))) _).trans (hHeld.2.1)))))))), ((cell_far (p := ⟨gb106, _, none⟩) (by first | exact Nat.ne_of_lt (Nat.lt_of_lt_of_le (by have := World.block_lt_of_cell? _ _ hw104_2; first | rwa [add_block] at this | exact this) GW106.out) | (rw [add_block]; exact Nat.ne_of_lt (Nat.lt_of_lt_of_le (by have := World.block_lt_of_cell? _ _ hw104_2; first | rwa [add_block] at this | exact this) GW106.out)) | (show (Addr.add _ _).block ≠ _; rw [add_block]; exact Nat.ne_of_lt (Nat.lt_of_lt_of_le (by have := World.block_lt_of_cell? _ _ hw104_2; first | rwa [add_block] at this | exact this) GW106.out)) | (dsimp only; exact Nat.ne_of_lt (Nat.lt_of_lt_of_le (by have := World.block_lt_of_cell? _ _ hw104_2; first | rwa [add_block] at this | exact this) GW106.out))) _).trans (((cell_far (p := ⟨gb106, _, none⟩) (by first | exact Nat.ne_of_lt (Nat.lt_of_lt_of_le (by have := World.block_lt_of_cell? _ _ hw104_2; first | rwa [add_block] at this | exact this) GW106.out) | (rw [add_block]; exact Nat.ne_of_lt (Nat.lt_of_lt_of_le (by have := World.block_lt_of_cell? _ _ hw104_2; first | rwa [add_block] at this | exact this) GW106.out)) | (show (Addr.add _ _).block ≠ _; rw [add_block]; exact Nat.ne_of_lt (Nat.lt_of_lt_of_le (by have := World.block_lt_of_cell? _ _ hw104_2; first | rwa [add_block] at this | exact this) GW106.out)) | (dsimp only; exact Nat.ne_of_lt (Nat.lt_of_lt_of_le (by have := World.block_lt_of_cell? _ _ hw104_2; first | rwa [add_block] at this | exact this) GW106.out))) _).trans (((cell_far (p := ⟨gb106, _, none⟩) (by first | exact Nat.ne_of_lt (Nat.lt_of_lt_of_le (by have := World.block_lt_of_cell? _ _ hw104_2; first | rwa [add_block] at this | exact this) GW106.out) | (rw [add_block]; exact Nat.ne_of_lt (Nat.lt_of_lt_of_le (by have := World.block_lt_of_cell? _ _ hw104_2; first | rwa [add_block] at this | exact this) GW106.out)) | (show (Addr.add _ _).block ≠ _; rw [add_block]; exact Nat.ne_of_lt (Nat.lt_of_lt_of_le (by have := World.block_lt_of_cell? _ _ hw104_2; first | rwa [add_block] at this | exact this) GW106.out)) | (dsimp only; exact Nat.ne_of_lt (Nat.lt_of_lt_of_le (by have := World.block_lt_of_cell? _ _ hw104_2; first | rwa [add_block] at this | exact this) GW106.out))) _).trans (((cell_far (p := ⟨gb106, _, none⟩) (by first | exact Nat.ne_of_lt (Nat.lt_of_lt_of_le (by have := World.block_lt_of_cell? _ _ hw104_2; first | rwa [add_block] at this | exact this) GW106.out) | (rw [add_block]; exact Nat.ne_of_lt (Nat.lt_of_lt_of_le (by have := World.block_lt_of_cell? _ _ hw104_2; first | rwa [add_block] at this | exact this) GW106.out)) | (show (Addr.add _ _).block ≠ _; rw [add_block]; exact Nat.ne_of_lt (Nat.lt_of_lt_of_le (by have := World.block_lt_of_cell? _ _ hw104_2; first | rwa [add_block] at this | exact this) GW106.out)) | (dsimp only; exact Nat.ne_of_lt (Nat.lt_of_lt_of_le (by have := World.block_lt_of_cell? _ _ hw104_2; first | rwa [add_block] at this | exact this) GW106.out))) _).trans (hHeld.2.2.1)))))))), ((cell_far (p := ⟨gb106, _, none⟩) (by first | exact Nat.ne_of_lt (Nat.lt_of_lt_of_le (by have := World.block_lt_of_cell? _ _ hw104_3; first | rwa [add_block] at this | exact this) GW106.out) | (rw [add_block]; exact Nat.ne_of_lt (Nat.lt_of_lt_of_le (by have := World.block_lt_of_cell? _ _ hw104_3; first | rwa [add_block] at this | exact this) GW106.out)) | (show (Addr.add _ _).block ≠ _; rw [add_block]; exact Nat.ne_of_lt (Nat.lt_of_lt_of_le (by have := World.block_lt_of_cell? _ _ hw104_3; first | rwa [add_block] at this | exact this) GW106.out)) | (dsimp only; exact Nat.ne_of_lt (Nat.lt_of_lt_of_le (by have := World.block_lt_of_cell? _ _ hw104_3; first | rwa [add_block] at this | exact this) GW106.out))) _).trans (((cell_far (p := ⟨gb106, _, none⟩) (by first | exact Nat.ne_of_lt (Nat.lt_of_lt_of_le (by have := World.block_lt_of_cell? _ _ hw104_3; first | rwa [add_block] at this | exact this) GW106.out) | (rw [add_block]; exact Nat.ne_of_lt (Nat.lt_of_lt_of_le (by have := World.block_lt_of_cell? _ _ hw104_3; first | rwa [add_block] at this | exact this) GW106.out)) | (show (Addr.add _ _).block ≠ _; rw [add_block]; exact Nat.ne_of_lt (Nat.lt_of_lt_of_le (by have := World.block_lt_of_cell? _ _ hw104_3; first | rwa [add_block] at this | exact this) GW106.out)) | (dsimp only; exact Nat.ne_of_lt (Nat.lt_of_lt_of_le (by have := World.block_lt_of_cell? _ _ hw104_3; first | rwa [add_block] at this | exact this) GW106.out))) _).trans (((cell_far (p := ⟨gb106, _, none⟩) (by first | exact Nat.ne_of_lt (Nat.lt_of_lt_of_le (by have := World.block_lt_of_cell? _ _ hw104_3; first | rwa [add_block] at this | exact this) GW106.out) | (rw [add_block]; exact Nat.ne_of_lt (Nat.lt_of_lt_of_le (by have := World.block_lt_of_cell? _ _ hw104_3; first | rwa [add_block] at this | exact this) GW106.out)) | (show (Addr.add _ _).block ≠ _; rw [add_block]; exact Nat.ne_of_lt (Nat.lt_of_lt_of_le (by have := World.block_lt_of_cell? _ _ hw104_3; first | rwa [add_block] at this | exact this) GW106.out)) | (dsimp only; exact Nat.ne_of_lt (Nat.lt_of_lt_of_le (by have := World.block_lt_of_cell? _ _ hw104_3; first | rwa [add_block] at this | exact this) GW106.out))) _).trans (((cell_far (p := ⟨gb106, _, none⟩) (by first | exact Nat.ne_of_lt (Nat.lt_of_lt_of_le (by have := World.block_lt_of_cell? _ _ hw104_3; first | rwa [add_block] at this | exact this) GW106.out) | (rw [add_block]; exact Nat.ne_of_lt (Nat.lt_of_lt_of_le (by have := World.block_lt_of_cell? _ _ hw104_3; first | rwa [add_block] at this | exact this) GW106.out)) | (show (Addr.add _ _).block ≠ _; rw [add_block]; exact Nat.ne_of_lt (Nat.lt_of_lt_of_le (by have := World.block_lt_of_cell? _ _ hw104_3; first | rwa [add_block] at this | exact this) GW106.out)) | (dsimp only; exact Nat.ne_of_lt (Nat.lt_of_lt_of_le (by have := World.block_lt_of_cell? _ _ hw104_3; first | rwa [add_block] at this | exact this) GW106.out))) _).trans (hHeld.2.2.2.1)))))))), ((cell_far (p := ⟨gb106, _, none⟩) (by first | exact Nat.ne_of_lt (Nat.lt_of_lt_of_le (by have := World.block_lt_of_cell? _ _ hw105_0; first | rwa [add_block] at this | exact this) GW106.out) | (rw [add_block]; exact Nat.ne_of_lt (Nat.lt_of_lt_of_le (by have := World.block_lt_of_cell? _ _ hw105_0; first | rwa [add_block] at this | exact this) GW106.out)) | (show (Addr.add _ _).block ≠ _; rw [add_block]; exact Nat.ne_of_lt (Nat.lt_of_lt_of_le (by have := World.block_lt_of_cell? _ _ hw105_0; first | rwa [add_block] at this | exact this) GW106.out)) | (dsimp only; exact Nat.ne_of_lt (Nat.lt_of_lt_of_le (by have := World.block_lt_of_cell? _ _ hw105_0; first | rwa [add_block] at this | exact this) GW106.out))) _).trans (((cell_far (p := ⟨gb106, _, none⟩) (by first | exact Nat.ne_of_lt (Nat.lt_of_lt_of_le (by have := World.block_lt_of_cell? _ _ hw105_0; first | rwa [add_block] at this | exact this) GW106.out) | (rw [add_block]; exact Nat.ne_of_lt (Nat.lt_of_lt_of_le (by have := World.block_lt_of_cell? _ _ hw105_0; first | rwa [add_block] at this | exact this) GW106.out)) | (show (Addr.add _ _).block ≠ _; rw [add_block]; exact Nat.ne_of_lt (Nat.lt_of_lt_of_le (by have := World.block_lt_of_cell? _ _ hw105_0; first | rwa [add_block] at this | exact this) GW106.out)) | (dsimp only; exact Nat.ne_of_lt (Nat.lt_of_lt_of_le (by have := World.block_lt_of_cell? _ _ hw105_0; first | rwa [add_block] at this | exact this) GW106.out))) _).trans (((cell_far (p := ⟨gb106, _, none⟩) (by first | exact Nat.ne_of_lt (Nat.lt_of_lt_of_le (by have := World.block_lt_of_cell? _ _ hw105_0; first | rwa [add_block] at this | exact this) GW106.out) | (rw [add_block]; exact Nat.ne_of_lt (Nat.lt_of_lt_of_le (by have := World.block_lt_of_cell? _ _ hw105_0; first | rwa [add_block] at this | exact this) GW106.out)) | (show (Addr.add _ _).block ≠ _; rw [add_block]; exact Nat.ne_of_lt (Nat.lt_of_lt_of_le (by have := World.block_lt_of_cell? _ _ hw105_0; first | rwa [add_block] at this | exact this) GW106.out)) | (dsimp only; exact Nat.ne_of_lt (Nat.lt_of_lt_of_le (by have := World.block_lt_of_cell? _ _ hw105_0; first | rwa [add_block] at this | exact this) GW106.out))) _).trans (((cell_far (p := ⟨gb106, _, none⟩) (by first | exact Nat.ne_of_lt (Nat.lt_of_lt_of_le (by have := World.block_lt_of_cell? _ _ hw105_0; first | rwa [add_block] at this | exact this) GW106.out) | (rw [add_block]; exact Nat.ne_of_lt (Nat.lt_of_lt_of_le (by have := World.block_lt_of_cell? _ _ hw105_0; first | rwa [add_block] at this | exact this) GW106.out)) | (show (Addr.add _ _).block ≠ _; rw [add_block]; exact Nat.ne_of_lt (Nat.lt_of_lt_of_le (by have := World.block_lt_of_cell? _ _ hw105_0; first | rwa [add_block] at this | exact this) GW106.out)) | (dsimp only; exact Nat.ne_of_lt (Nat.lt_of_lt_of_le (by have := World.block_lt_of_cell? _ _ hw105_0; first | rwa [add_block] at this | exact this) GW106.out))) _).trans (hHeld.2.2.2.2.1)))))))), ((cell_far (p := ⟨gb106, _, none⟩) (by first | exact Nat.ne_of_lt (Nat.lt_of_lt_of_le (by have := World.block_lt_of_cell? _ _ hw105_1; first | rwa [add_block] at this | exact this) GW106.out) | (rw [add_block]; exact Nat.ne_of_lt (Nat.lt_of_lt_of_le (by have := World.block_lt_of_cell? _ _ hw105_1; first | rwa [add_block] at this | exact this) GW106.out)) | (show (Addr.add _ _).block ≠ _; rw [add_block]; exact Nat.ne_of_lt (Nat.lt_of_lt_of_le (by have := World.block_lt_of_cell? _ _ hw105_1; first | rwa [add_block] at this | exact this) GW106.out)) | (dsimp only; exact Nat.ne_of_lt (Nat.lt_of_lt_of_le (by have := World.block_lt_of_cell? _ _ hw105_1; first | rwa [add_block] at this | exact this) GW106.out))) _).trans (((cell_far (p := ⟨gb106, _, none⟩) (by first | exact Nat.ne_of_lt (Nat.lt_of_lt_of_le (by have := World.block_lt_of_cell? _ _ hw105_1; first | rwa [add_block] at this | exact this) GW106.out) | (rw [add_block]; exact Nat.ne_of_lt (Nat.lt_of_lt_of_le (by have := World.block_lt_of_cell? _ _ hw105_1; first | rwa [add_block] at this | exact this) GW106.out)) | (show (Addr.add _ _).block ≠ _; rw [add_block]; exact Nat.ne_of_lt (Nat.lt_of_lt_of_le (by have := World.block_lt_of_cell? _ _ hw105_1; first | rwa [add_block] at this | exact this) GW106.out)) | (dsimp only; exact Nat.ne_of_lt (Nat.lt_of_lt_of_le (by have := World.block_lt_of_cell? _ _ hw105_1; first | rwa [add_block] at this | exact this) GW106.out))) _).trans (((cell_far (p := ⟨gb106, _, none⟩) (by first | exact Nat.ne_of_lt (Nat.lt_of_lt_of_le (by have := World.block_lt_of_cell? _ _ hw105_1; first | rwa [add_block] at this | exact this) GW106.out) | (rw [add_block]; exact Nat.ne_of_lt (Nat.lt_of_lt_of_le (by have := World.block_lt_of_cell? _ _ hw105_1; first | rwa [add_block] at this | exact this) GW106.out)) | (show (Addr.add _ _).block ≠ _; rw [add_block]; exact Nat.ne_of_lt (Nat.lt_of_lt_of_le (by have := World.block_lt_of_cell? _ _ hw105_1; first | rwa [add_block] at this | exact this) GW106.out)) | (dsimp only; exact Nat.ne_of_lt (Nat.lt_of_lt_of_le (by have := World.block_lt_of_cell? _ _ hw105_1; first | rwa [add_block] at this | exact this) GW106.out))) _).trans (((cell_far (p := ⟨gb106, _, none⟩) (by first | exact Nat.ne_of_lt (Nat.lt_of_lt_of_le (by have := World.block_lt_of_cell? _ _ hw105_1; first | rwa [add_block] at this | exact this) GW106.out) | (rw [add_block]; exact Nat.ne_of_lt (Nat.lt_of_lt_of_le (by have := World.block_lt_of_cell? _ _ hw105_1; first | rwa [add_block] at this | exact this) GW106.out)) | (show (Addr.add _ _).block ≠ _; rw [add_block]; exact Nat.ne_of_lt (Nat.lt_of_lt_of_le (by have := World.block_lt_of_cell? _ _ hw105_1; first | rwa [add_block] at this | exact this) GW106.out)) | (dsimp only; exact Nat.ne_of_lt (Nat.lt_of_lt_of_le (by have := World.block_lt_of_cell? _ _ hw105_1; first | rwa [add_block] at this | exact this) GW106.out))) _).trans (hHeld.2.2.2.2.2.1)))))))), ((cell_far (p := ⟨gb106, _, none⟩) (by first | exact Nat.ne_of_lt (Nat.lt_of_lt_of_le (by have := World.block_lt_of_cell? _ _ hw105_2; first | rwa [add_block] at this | exact this) GW106.out) | (rw [add_block]; exact Nat.ne_of_lt (Nat.lt_of_lt_of_le (by have := World.block_lt_of_cell? _ _ hw105_2; first | rwa [add_block] at this | exact this) GW106.out)) | (show (Addr.add _ _).block ≠ _; rw [add_block]; exact Nat.ne_of_lt (Nat.lt_of_lt_of_le (by have := World.block_lt_of_cell? _ _ hw105_2; first | rwa [add_block] at this | exact this) GW106.out)) | (dsimp only; exact Nat.ne_of_lt (Nat.lt_of_lt_of_le (by have := World.block_lt_of_cell? _ _ hw105_2; first | rwa [add_block] at this | exact this) GW106.out))) _).trans (((cell_far (p := ⟨gb106, _, none⟩) (by first | exact Nat.ne_of_lt (Nat.lt_of_lt_of_le (by have := World.block_lt_of_cell? _ _ hw105_2; first | rwa [add_block] at this | exact this) GW106.out) | (rw [add_block]; exact Nat.ne_of_lt (Nat.lt_of_lt_of_le (by have := World.block_lt_of_cell? _ _ hw105_2; first | rwa [add_block] at this | exact this) GW106.out)) | (show (Addr.add _ _).block ≠ _; rw [add_block]; exact Nat.ne_of_lt (Nat.lt_of_lt_of_le (by have := World.block_lt_of_cell? _ _ hw105_2; first | rwa [add_block] at this | exact this) GW106.out)) | (dsimp only; exact Nat.ne_of_lt (Nat.lt_of_lt_of_le (by have := World.block_lt_of_cell? _ _ hw105_2; first | rwa [add_block] at this | exact this) GW106.out))) _).trans (((cell_far (p := ⟨gb106, _, none⟩) (by first | exact Nat.ne_of_lt (Nat.lt_of_lt_of_le (by have := World.block_lt_of_cell? _ _ hw105_2; first | rwa [add_block] at this | exact this) GW106.out) | (rw [add_block]; exact Nat.ne_of_lt (Nat.lt_of_lt_of_le (by have := World.block_lt_of_cell? _ _ hw105_2; first | rwa [add_block] at this | exact this) GW106.out)) | (show (Addr.add _ _).block ≠ _; rw [add_block]; exact Nat.ne_of_lt (Nat.lt_of_lt_of_le (by have := World.block_lt_of_cell? _ _ hw105_2; first | rwa [add_block] at this | exact this) GW106.out)) | (dsimp only; exact Nat.ne_of_lt (Nat.lt_of_lt_of_le (by have := World.block_lt_of_cell? _ _ hw105_2; first | rwa [add_block] at this | exact this) GW106.out))) _).trans (((cell_far (p := ⟨gb106, _, none⟩) (by first | exact Nat.ne_of_lt (Nat.lt_of_lt_of_le (by have := World.block_lt_of_cell? _ _ hw105_2; first | rwa [add_block] at this | exact this) GW106.out) | (rw [add_block]; exact Nat.ne_of_lt (Nat.lt_of_lt_of_le (by have := World.block_lt_of_cell? _ _ hw105_2; first | rwa [add_block] at this | exact this) GW106.out)) | (show (Addr.add _ _).block ≠ _; rw [add_block]; exact Nat.ne_of_lt (Nat.lt_of_lt_of_le (by have := World.block_lt_of_cell? _ _ hw105_2; first | rwa [add_block] at this | exact this) GW106.out)) | (dsimp only; exact Nat.ne_of_lt (Nat.lt_of_lt_of_le (by have := World.block_lt_of_cell? _ _ hw105_2; first | rwa [add_block] at this | exact this) GW106.out))) _).trans (hHeld.2.2.2.2.2.2.1)))))))), ((cell_far (p := ⟨gb106, _, none⟩) (by first | exact Nat.ne_of_lt (Nat.lt_of_lt_of_le (by have := World.block_lt_of_cell? _ _ hw105_3; first | rwa [add_block] at this | exact this) GW106.out) | (rw [add_block]; exact Nat.ne_of_lt (Nat.lt_of_lt_of_le (by have := World.block_lt_of_cell? _ _ hw105_3; first | rwa [add_block] at this | exact this) GW106.out)) | (show (Addr.add _ _).block ≠ _; rw [add_block]; exact Nat.ne_of_lt (Nat.lt_of_lt_of_le (by have := World.block_lt_of_cell? _ _ hw105_3; first | rwa [add_block] at this | exact this) GW106.out)) | (dsimp only; exact Nat.ne_of_lt (Nat.lt_of_lt_of_le (by have := World.block_lt_of_cell? _ _ hw105_3; first | rwa [add_block] at this | exact this) GW106.out))) _).trans (((cell_far (p := ⟨gb106, _, none⟩) (by first | exact Nat.ne_of_lt (Nat.lt_of_lt_of_le (by have := World.block_lt_of_cell? _ _ hw105_3; first | rwa [add_block] at this | exact this) GW106.out) | (rw [add_block]; exact Nat.ne_of_lt (Nat.lt_of_lt_of_le (by have := World.block_lt_of_cell? _ _ hw105_3; first | rwa [add_block] at this | exact this) GW106.out)) | (show (Addr.add _ _).block ≠ _; rw [add_block]; exact Nat.ne_of_lt (Nat.lt_of_lt_of_le (by have := World.block_lt_of_cell? _ _ hw105_3; first | rwa [add_block] at this | exact this) GW106.out)) | (dsimp only; exact Nat.ne_of_lt (Nat.lt_of_lt_of_le (by have := World.block_lt_of_cell? _ _ hw105_3; first | rwa [add_block] at this | exact this) GW106.out))) _).trans (((cell_far (p := ⟨gb106, _, none⟩) (by first | exact Nat.ne_of_lt (Nat.lt_of_lt_of_le (by have := World.block_lt_of_cell? _ _ hw105_3; first | rwa [add_block] at this | exact this) GW106.out) | (rw [add_block]; exact Nat.ne_of_lt (Nat.lt_of_lt_of_le (by have := World.block_lt_of_cell? _ _ hw105_3; first | rwa [add_block] at this | exact this) GW106.out)) | (show (Addr.add _ _).block ≠ _; rw [add_block]; exact Nat.ne_of_lt (Nat.lt_of_lt_of_le (by have := World.block_lt_of_cell? _ _ hw105_3; first | rwa [add_block] at this | exact this) GW106.out)) | (dsimp only; exact Nat.ne_of_lt (Nat.lt_of_lt_of_le (by have := World.block_lt_of_cell? _ _ hw105_3; first | rwa [add_block] at this | exact this) GW106.out))) _).trans (((cell_far (p := ⟨gb106, _, none⟩) (by first | exact Nat.ne_of_lt (Nat.lt_of_lt_of_le (by have := World.block_lt_of_cell? _ _ hw105_3; first | rwa [add_block] at this | exact this) GW106.out) | (rw [add_block]; exact Nat.ne_of_lt (Nat.lt_of_lt_of_le (by have := World.block_lt_of_cell? _ _ hw105_3; first | rwa [add_block] at this | exact this) GW106.out)) | (show (Addr.add _ _).block ≠ _; rw [add_block]; exact Nat.ne_of_lt (Nat.lt_of_lt_of_le (by have := World.block_lt_of_cell? _ _ hw105_3; first | rwa [add_block] at this | exact this) GW106.out)) | (dsimp only; exact Nat.ne_of_lt (Nat.lt_of_lt_of_le (by have := World.block_lt_of_cell? _ _ hw105_3; first | rwa [add_block] at this | exact this) GW106.out))) _).trans (hHeld.2.2.2.2.2.2.2))))))))⟩ (fun hHeld => ?_)
                clear hK K
                refine done_ (done_of HT_.out (by kernel_rfl)) ?_
                try go_wp2
                have n0_ : Aside0 (Kd.R k40 40 ((((w12.setCell ⟨gb106, 0, none⟩ (.bool ((rd_T40 l0 x6_1).f0))).setCell ⟨gb106, 1, none⟩ (.string (⟨#[]⟩ : ByteArray))).setCell ⟨gb106, 2, none⟩ (.int .i64 (Go.bits .and .i64 ((rd_T40 l0 x6_1).f2) 15))).setCell ⟨gb106, 3, none⟩ (.int .i64 0)) w.heap.size (fun k_ => k_ ≠ gb106) u5 x5_1) := ⟨by (with_reducible repeat (first | apply Kd.R_alloc | apply Kd.R_drewN | apply Kd.R_drew)); exact Kd.R_mono (Kd.R_far (p := ⟨gb106, 3, none⟩) (Kd.R_far (p := ⟨gb106, 2, none⟩) (Kd.R_far (p := ⟨gb106, 1, none⟩) (Kd.R_far (p := ⟨gb106, 0, none⟩) (Kd.R_mono HO_5.out (fun k_ hk => (⟨hk, hk.2⟩ : _ ∧ k_ ≠ gb106))) (fun _ hk => hk.2) (.bool ((rd_T40 l0 x6_1).f0))) (fun _ hk => hk.2) (.string (⟨#[]⟩ : ByteArray))) (fun _ hk => hk.2) (.int .i64 (Go.bits .and .i64 ((rd_T40 l0 x6_1).f2) 15))) (fun _ hk => hk.2) (.int .i64 0)) (fun _ hk => hk.1.2)⟩
                have n1_ : Aside0 (((((w12.setCell ⟨gb106, 0, none⟩ (.bool ((rd_T40 l0 x6_1).f0))).setCell ⟨gb106, 1, none⟩ (.string (⟨#[]⟩ : ByteArray))).setCell ⟨gb106, 2, none⟩ (.int .i64 (Go.bits .and .i64 ((rd_T40 l0 x6_1).f2) 15))).setCell ⟨gb106, 3, none⟩ (.int .i64 0)).heap[gb106]? = some (.cells #[.bool ((rd_T40 l0 x6_1).f0), .string (⟨#[]⟩ : ByteArray), .int .i64 (Go.bits .and .i64 ((rd_T40 l0 x6_1).f2) 15), .int .i64 0] 40 (0, 0))) := ⟨by (with_reducible repeat (first | refine blk_drewN ?_ _ | refine blk_drew ?_ | refine blk_alloc ?_ _)); refine blk_put (cs := #[.bool ((rd_T40 l0 x6_1).f0), .string (⟨#[]⟩ : ByteArray), .int .i64 (Go.bits .and .i64 ((rd_T40 l0 x6_1).f2) 15), .int .i64 0]) ?_ 3 _ rfl; (with_reducible repeat (first | refine blk_drewN ?_ _ | refine blk_drew ?_ | refine blk_alloc ?_ _)); refine blk_put (cs := #[.bool ((rd_T40 l0 x6_1).f0), .string (⟨#[]⟩ : ByteArray), .int .i64 0, .int .i64 0]) ?_ 2 _ rfl; (with_reducible repeat (first | refine blk_drewN ?_ _ | refine blk_drew ?_ | refine blk_alloc ?_ _)); refine blk_put (cs := #[.bool ((rd_T40 l0 x6_1).f0), .string (⟨#[]⟩ : ByteArray), .int .i64 0, .int .i64 0]) ?_ 1 _ rfl; (with_reducible repeat (first | refine blk_drewN ?_ _ | refine blk_drew ?_ | refine blk_alloc ?_ _)); refine blk_put (cs := #[.bool false, .string (⟨#[]⟩ : ByteArray), .int .i64 0, .int .i64 0]) ?_ 0 _ rfl; (with_reducible repeat (first | refine blk_drewN ?_ _ | refine blk_drew ?_ | refine blk_alloc ?_ _)); exact BK106.out⟩
                have n2_ : Aside0 (Below w.heap.size w ((((w12.setCell ⟨gb106, 0, none⟩ (.bool ((rd_T40 l0 x6_1).f0))).setCell ⟨gb106, 1, none⟩ (.string (⟨#[]⟩ : ByteArray))).setCell ⟨gb106, 2, none⟩ (.int .i64 (Go.bits .and .i64 ((rd_T40 l0 x6_1).f2) 15))).setCell ⟨gb106, 3, none⟩ (.int .i64 0))) := ⟨by repeat (first | (with_reducible first | exact HB.out | apply below_alloc | apply pw_below_drewN | apply below_drew1 | refine below_set ?_ GE106.out) | exact HB.out)⟩
                (try clear HO_5)
                (try clear BK106)
                (try clear HB)
                generalize ((((w12.setCell ⟨gb106, 0, none⟩ (.bool ((rd_T40 l0 x6_1).f0))).setCell ⟨gb106, 1, none⟩ (.string (⟨#[]⟩ : ByteArray))).setCell ⟨gb106, 2, none⟩ (.int .i64 (Go.bits .and .i64 ((rd_T40 l0 x6_1).f2) 15))).setCell ⟨gb106, 3, none⟩ (.int .i64 0)) = w17 at n0_ n1_ n2_ ⊢
                have HO_5 := n0_
                have BK106 := n1_
                have HB := n2_
                clear n0_ n1_ n2_
                have n0_ := Aside0.mk (Kd.R_drew HO_5.out)
                have n1_ := Aside0.mk (blk_drew BK106.out)
                have n2_ := Aside0.mk (below_drew1 HB.out)
                clear HO_5
                clear BK106
                clear HB
                have HO_5 := n0_
                have BK106 := n1_
                have HB := n2_
                clear n0_ n1_ n2_
                have p107 : 0 ≤ (x6_1 : Int) := of_decide_eq_true (by first | (with_reducible assumption) | assumption)
                have q107 : x6_1 < (l0.length : Int) := of_decide_eq_true (by first | (with_reducible assumption) | assumption)
                obtain ⟨ad107, e107, hx107_0, hx107_1, hx107_2, hx107_3⟩ := at_T40 HR0.out x6_1 p107 q107
                have hw107_3 := hx107_3
                have hw107_2 := hx107_2
                have hw107_1 := hx107_1
                have hw107_0 := hx107_0
                obtain rfl : ad104 = ad107 := (by injection e107)
                replace hx107_0 := (HB.out.cell (World.block_lt_of_cell? w _ hx107_0)).trans hx107_0
                replace hx107_1 := (HB.out.cell (World.block_lt_of_cell? w _ hx107_1)).trans hx107_1
                replace hx107_2 := (HB.out.cell (World.block_lt_of_cell? w _ hx107_2)).trans hx107_2
                replace hx107_3 := (HB.out.cell (World.block_lt_of_cell? w _ hx107_3)).trans hx107_3
                replace p107 := eq_true p107
                replace q107 := eq_true q107
                refine start_ (n := 12) (S := fun w' => w'.cell? ⟨gb106, 0, none⟩ = some (.bool ((rd_T40 l0 x6_1).f0)) ∧ w'.cell? ⟨gb106, 1, none⟩ = some (.string (⟨#[]⟩ : ByteArray)) ∧ w'.cell? ⟨gb106, 2, none⟩ = some (.int .i64 (Go.bits .and .i64 ((rd_T40 l0 x6_1).f2) 15)) ∧ w'.cell? ⟨gb106, 3, none⟩ = some (.int .i64 0) ∧ w'.cell? (ad104.add ((x6_1).toNat * 4)) = some (.bool ((rd_T40 l0 x6_1).f0)) ∧ w'.cell? ⟨(ad104.add ((x6_1).toNat * 4)).block, (ad104.add ((x6_1).toNat * 4)).off + 1, none⟩ = some (.string ((rd_T40 l0 x6_1).f1)) ∧ w'.cell? ⟨(ad104.add ((x6_1).toNat * 4)).block, (ad104.add ((x6_1).toNat * 4)).off + 2, none⟩ = some (.int .i64 ((rd_T40 l0 x6_1).f2)) ∧ w'.cell? ⟨(ad104.add ((x6_1).toNat * 4)).block, (ad104.add ((x6_1).toNat * 4)).off + 3, none⟩ = some (.int .i64 ((rd_T40 l0 x6_1).f3))) (ds := [11]) #[false, false, false, false, false, false, false, false, false, false, false, false] (by kernel_rfl) rfl rfl ⟨(blk_cell BK106.out 0).trans rfl, (blk_cell BK106.out 1).trans rfl, (blk_cell BK106.out 2).trans rfl, (blk_cell BK106.out 3).trans rfl, ((HB.out.cell (World.block_lt_of_cell? w _ hw107_0)).trans hw107_0), ((HB.out.cell (World.block_lt_of_cell? w _ hw107_1)).trans hw107_1), ((HB.out.cell (World.block_lt_of_cell? w _ hw107_2)).trans hw107_2), ((HB.out.cell (World.block_lt_of_cell? w _ hw107_3)).trans hw107_3)⟩ (fun hHeld => ?_); refine with_tabW tarnlaw40_near.tab6 tarnlaw40_near.bits6 (fun HT_ HW_ => ?_)
                generalize w17.drew = w18 at HO_5 BK106 HB hx107_0 hx107_1 hx107_2 hx107_3 hHeld ⊢
                refine pure_ (i := 0) (N := some 31) (v := ?_) (a' := ?_) #[true, false, false, false, false, false, false, false, false, false, false, false] rfl rfl (any_of HT_.out (by kernel_rfl)) (fun _ _ _ h => h) (Or.inl ⟨by rfl, ?_⟩) ?_ ?_
                rotate_left
                · first | (intro w'; go_simp; with_reducible rfl) | (intro w'; refine Eq.trans (add_step (by rfl) (by rfl) (by rfl) (by assumption) w') ?_; with_reducible rfl) | (intro w'; refine Eq.trans (cut_hi_n Try.underlying9 (by rfl) (by rfl) (by rfl) (by first | assumption | exact of_eq_true (by assumption) | exact of_decide_eq_true (by assumption) | omega) w') ?_; with_reducible rfl) | (intro w'; refine Eq.trans (cut_hi Try.underlying9 (by rfl) (by rfl) (by rfl) (by first | assumption | exact of_eq_true (by assumption) | exact of_decide_eq_true (by assumption) | omega) (by first | assumption | exact of_eq_true (by assumption) | exact of_decide_eq_true (by assumption) | omega) w') ?_; with_reducible rfl) | (intro w'; refine Eq.trans (cut_lo Try.underlying9 (by rfl) (by rfl) (by rfl) (by first | assumption | exact of_eq_true (by assumption) | exact of_decide_eq_true (by assumption) | omega) (by first | assumption | exact of_eq_true (by assumption) | exact of_decide_eq_true (by assumption) | omega) w') ?_; with_reducible rfl) | (intro w'; refine Eq.trans (cut_both Try.underlying9 (by rfl) (by rfl) (by rfl) (by rfl) (by first | assumption | exact of_eq_true (by assumption) | exact of_decide_eq_true (by assumption) | omega) (by first | assumption | exact of_eq_true (by assumption) | exact of_decide_eq_true (by assumption) | omega) (by first | assumption | exact of_eq_true (by assumption) | exact of_decide_eq_true (by assumption) | omega) w') ?_; with_reducible rfl)
                rotate_left
                · simp only [Act.put, List.setIfInBounds_toArray, List.set_cons_zero, List.set_cons_succ, i64_w, i32_w]
                  rfl
                refine pure_ (i := 3) (N := some 34) (v := ?_) (a' := ?_) #[true, false, false, true, false, false, false, false, false, false, false, false] rfl rfl (any_of HT_.out (by kernel_rfl)) (fun _ _ _ h => h) (Or.inl ⟨by rfl, ?_⟩) ?_ ?_
                rotate_left
                · first | (intro w'; go_simp; with_reducible rfl) | (intro w'; refine Eq.trans (add_step (by rfl) (by rfl) (by rfl) (by assumption) w') ?_; with_reducible rfl) | (intro w'; refine Eq.trans (cut_hi_n Try.underlying9 (by rfl) (by rfl) (by rfl) (by first | assumption | exact of_eq_true (by assumption) | exact of_decide_eq_true (by assumption) | omega) w') ?_; with_reducible rfl) | (intro w'; refine Eq.trans (cut_hi Try.underlying9 (by rfl) (by rfl) (by rfl) (by first | assumption | exact of_eq_true (by assumption) | exact of_decide_eq_true (by assumption) | omega) (by first | assumption | exact of_eq_true (by assumption) | exact of_decide_eq_true (by assumption) | omega) w') ?_; with_reducible rfl) | (intro w'; refine Eq.trans (cut_lo Try.underlying9 (by rfl) (by rfl) (by rfl) (by first | assumption | exact of_eq_true (by assumption) | exact of_decide_eq_true (by assumption) | omega) (by first | assumption | exact of_eq_true (by assumption) | exact of_decide_eq_true (by assumption) | omega) w') ?_; with_reducible rfl) | (intro w'; refine Eq.trans (cut_both Try.underlying9 (by rfl) (by rfl) (by rfl) (by rfl) (by first | assumption | exact of_eq_true (by assumption) | exact of_decide_eq_true (by assumption) | omega) (by first | assumption | exact of_eq_true (by assumption) | exact of_decide_eq_true (by assumption) | omega) (by first | assumption | exact of_eq_true (by assumption) | exact of_decide_eq_true (by assumption) | omega) w') ?_; with_reducible rfl)
                rotate_left
                · simp only [Act.put, List.setIfInBounds_toArray, List.set_cons_zero, List.set_cons_succ, i64_w, i32_w]
                  rfl
                refine pure_ (i := 4) (N := some 35) (v := ?_) (a' := ?_) #[true, false, false, true, true, false, false, false, false, false, false, false] rfl rfl (any_of HT_.out (by kernel_rfl)) (fun _ _ _ h => h) (Or.inl ⟨by rfl, ?_⟩) ?_ ?_
                rotate_left
                · first | (intro w'; go_simp; with_reducible rfl) | (intro w'; refine Eq.trans (add_step (by rfl) (by rfl) (by rfl) (by assumption) w') ?_; with_reducible rfl) | (intro w'; refine Eq.trans (cut_hi_n Try.underlying9 (by rfl) (by rfl) (by rfl) (by first | assumption | exact of_eq_true (by assumption) | exact of_decide_eq_true (by assumption) | omega) w') ?_; with_reducible rfl) | (intro w'; refine Eq.trans (cut_hi Try.underlying9 (by rfl) (by rfl) (by rfl) (by first | assumption | exact of_eq_true (by assumption) | exact of_decide_eq_true (by assumption) | omega) (by first | assumption | exact of_eq_true (by assumption) | exact of_decide_eq_true (by assumption) | omega) w') ?_; with_reducible rfl) | (intro w'; refine Eq.trans (cut_lo Try.underlying9 (by rfl) (by rfl) (by rfl) (by first | assumption | exact of_eq_true (by assumption) | exact of_decide_eq_true (by assumption) | omega) (by first | assumption | exact of_eq_true (by assumption) | exact of_decide_eq_true (by assumption) | omega) w') ?_; with_reducible rfl) | (intro w'; refine Eq.trans (cut_both Try.underlying9 (by rfl) (by rfl) (by rfl) (by rfl) (by first | assumption | exact of_eq_true (by assumption) | exact of_decide_eq_true (by assumption) | omega) (by first | assumption | exact of_eq_true (by assumption) | exact of_decide_eq_true (by assumption) | omega) (by first | assumption | exact of_eq_true (by assumption) | exact of_decide_eq_true (by assumption) | omega) w') ?_; with_reducible rfl)
                rotate_left
                · simp only [Act.put, List.setIfInBounds_toArray, List.set_cons_zero, List.set_cons_succ, i64_w, i32_w]
                  rfl
                refine pure_ (i := 5) (N := some 36) (v := ?_) (a' := ?_) #[true, false, false, true, true, true, false, false, false, false, false, false] rfl rfl (any_of HT_.out (by kernel_rfl)) (fun _ _ _ h => h) (Or.inl ⟨by rfl, ?_⟩) ?_ ?_
                rotate_left
                · first | (intro w'; go_simp; with_reducible rfl) | (intro w'; refine Eq.trans (add_step (by rfl) (by rfl) (by rfl) (by assumption) w') ?_; with_reducible rfl) | (intro w'; refine Eq.trans (cut_hi_n Try.underlying9 (by rfl) (by rfl) (by rfl) (by first | assumption | exact of_eq_true (by assumption) | exact of_decide_eq_true (by assumption) | omega) w') ?_; with_reducible rfl) | (intro w'; refine Eq.trans (cut_hi Try.underlying9 (by rfl) (by rfl) (by rfl) (by first | assumption | exact of_eq_true (by assumption) | exact of_decide_eq_true (by assumption) | omega) (by first | assumption | exact of_eq_true (by assumption) | exact of_decide_eq_true (by assumption) | omega) w') ?_; with_reducible rfl) | (intro w'; refine Eq.trans (cut_lo Try.underlying9 (by rfl) (by rfl) (by rfl) (by first | assumption | exact of_eq_true (by assumption) | exact of_decide_eq_true (by assumption) | omega) (by first | assumption | exact of_eq_true (by assumption) | exact of_decide_eq_true (by assumption) | omega) w') ?_; with_reducible rfl) | (intro w'; refine Eq.trans (cut_both Try.underlying9 (by rfl) (by rfl) (by rfl) (by rfl) (by first | assumption | exact of_eq_true (by assumption) | exact of_decide_eq_true (by assumption) | omega) (by first | assumption | exact of_eq_true (by assumption) | exact of_decide_eq_true (by assumption) | omega) (by first | assumption | exact of_eq_true (by assumption) | exact of_decide_eq_true (by assumption) | omega) w') ?_; with_reducible rfl)
                rotate_left
                · simp only [Act.put, List.setIfInBounds_toArray, List.set_cons_zero, List.set_cons_succ, i64_w, i32_w]
                  rfl
                refine pure_ (i := 6) (N := some 37) (v := ?_) (a' := ?_) #[true, false, false, true, true, true, true, false, false, false, false, false] rfl rfl (any_of HT_.out (by kernel_rfl)) (fun _ _ _ h => h) (Or.inl ⟨by rfl, ?_⟩) ?_ ?_
                rotate_left
                · first | (intro w'; go_simp; with_reducible rfl) | (intro w'; refine Eq.trans (add_step (by rfl) (by rfl) (by rfl) (by assumption) w') ?_; with_reducible rfl) | (intro w'; refine Eq.trans (cut_hi_n Try.underlying9 (by rfl) (by rfl) (by rfl) (by first | assumption | exact of_eq_true (by assumption) | exact of_decide_eq_true (by assumption) | omega) w') ?_; with_reducible rfl) | (intro w'; refine Eq.trans (cut_hi Try.underlying9 (by rfl) (by rfl) (by rfl) (by first | assumption | exact of_eq_true (by assumption) | exact of_decide_eq_true (by assumption) | omega) (by first | assumption | exact of_eq_true (by assumption) | exact of_decide_eq_true (by assumption) | omega) w') ?_; with_reducible rfl) | (intro w'; refine Eq.trans (cut_lo Try.underlying9 (by rfl) (by rfl) (by rfl) (by first | assumption | exact of_eq_true (by assumption) | exact of_decide_eq_true (by assumption) | omega) (by first | assumption | exact of_eq_true (by assumption) | exact of_decide_eq_true (by assumption) | omega) w') ?_; with_reducible rfl) | (intro w'; refine Eq.trans (cut_both Try.underlying9 (by rfl) (by rfl) (by rfl) (by rfl) (by first | assumption | exact of_eq_true (by assumption) | exact of_decide_eq_true (by assumption) | omega) (by first | assumption | exact of_eq_true (by assumption) | exact of_decide_eq_true (by assumption) | omega) (by first | assumption | exact of_eq_true (by assumption) | exact of_decide_eq_true (by assumption) | omega) w') ?_; with_reducible rfl)
                rotate_left
                · simp only [Act.put, List.setIfInBounds_toArray, List.set_cons_zero, List.set_cons_succ, i64_w, i32_w]
                  rfl
                refine take_ (i := 1) (N := some 32) (v := ?_) (a' := ?_) #[true, true, false, true, true, true, true, false, false, false, false, false] rfl rfl (take_ofW HT_.out HW_.out (by kernel_rfl)) (fun _ _ _ h => h) (Or.inl ⟨by rfl, ?_⟩) hHeld ?_ ?_
                rotate_left
                · rintro w' ⟨s0, s1, s2, s3, s4, s5, s6, s7⟩
                  go_simp
                  with_reducible rfl
                rotate_left
                · simp only [Act.put, List.setIfInBounds_toArray, List.set_cons_zero, List.set_cons_succ, i64_w, i32_w]
                  rfl
                refine pure_ (i := 2) (N := some 33) (v := ?_) (a' := ?_) #[true, true, true, true, true, true, true, false, false, false, false, false] rfl rfl (any_of HT_.out (by kernel_rfl)) (fun _ _ _ h => h) (Or.inl ⟨by rfl, ?_⟩) ?_ ?_
                rotate_left
                · first | (intro w'; go_simp; with_reducible rfl) | (intro w'; refine Eq.trans (add_step (by rfl) (by rfl) (by rfl) (by assumption) w') ?_; with_reducible rfl) | (intro w'; refine Eq.trans (cut_hi_n Try.underlying9 (by rfl) (by rfl) (by rfl) (by first | assumption | exact of_eq_true (by assumption) | exact of_decide_eq_true (by assumption) | omega) w') ?_; with_reducible rfl) | (intro w'; refine Eq.trans (cut_hi Try.underlying9 (by rfl) (by rfl) (by rfl) (by first | assumption | exact of_eq_true (by assumption) | exact of_decide_eq_true (by assumption) | omega) (by first | assumption | exact of_eq_true (by assumption) | exact of_decide_eq_true (by assumption) | omega) w') ?_; with_reducible rfl) | (intro w'; refine Eq.trans (cut_lo Try.underlying9 (by rfl) (by rfl) (by rfl) (by first | assumption | exact of_eq_true (by assumption) | exact of_decide_eq_true (by assumption) | omega) (by first | assumption | exact of_eq_true (by assumption) | exact of_decide_eq_true (by assumption) | omega) w') ?_; with_reducible rfl) | (intro w'; refine Eq.trans (cut_both Try.underlying9 (by rfl) (by rfl) (by rfl) (by rfl) (by first | assumption | exact of_eq_true (by assumption) | exact of_decide_eq_true (by assumption) | omega) (by first | assumption | exact of_eq_true (by assumption) | exact of_decide_eq_true (by assumption) | omega) (by first | assumption | exact of_eq_true (by assumption) | exact of_decide_eq_true (by assumption) | omega) w') ?_; with_reducible rfl)
                rotate_left
                · simp only [Act.put, List.setIfInBounds_toArray, List.set_cons_zero, List.set_cons_succ, i64_w, i32_w]
                  rfl
                refine take_ (i := 7) (N := some 38) (v := ?_) (a' := ?_) #[true, true, true, true, true, true, true, true, false, false, false, false] rfl rfl (take_ofW HT_.out HW_.out (by kernel_rfl)) (fun _ _ _ h => h) (Or.inl ⟨by rfl, ?_⟩) hHeld ?_ ?_
                rotate_left
                · rintro w' ⟨s0, s1, s2, s3, s4, s5, s6, s7⟩
                  go_simp
                  with_reducible rfl
                rotate_left
                · simp only [Act.put, List.setIfInBounds_toArray, List.set_cons_zero, List.set_cons_succ, i64_w, i32_w]
                  rfl
                refine pure_ (i := 8) (N := some 39) (v := ?_) (a' := ?_) #[true, true, true, true, true, true, true, true, true, false, false, false] rfl rfl (any_of HT_.out (by kernel_rfl)) (fun _ _ _ h => h) (Or.inl ⟨by rfl, ?_⟩) ?_ ?_
                rotate_left
                · first | (intro w'; go_simp; with_reducible rfl) | (intro w'; refine Eq.trans (add_step (by rfl) (by rfl) (by rfl) (by assumption) w') ?_; with_reducible rfl) | (intro w'; refine Eq.trans (cut_hi_n Try.underlying9 (by rfl) (by rfl) (by rfl) (by first | assumption | exact of_eq_true (by assumption) | exact of_decide_eq_true (by assumption) | omega) w') ?_; with_reducible rfl) | (intro w'; refine Eq.trans (cut_hi Try.underlying9 (by rfl) (by rfl) (by rfl) (by first | assumption | exact of_eq_true (by assumption) | exact of_decide_eq_true (by assumption) | omega) (by first | assumption | exact of_eq_true (by assumption) | exact of_decide_eq_true (by assumption) | omega) w') ?_; with_reducible rfl) | (intro w'; refine Eq.trans (cut_lo Try.underlying9 (by rfl) (by rfl) (by rfl) (by first | assumption | exact of_eq_true (by assumption) | exact of_decide_eq_true (by assumption) | omega) (by first | assumption | exact of_eq_true (by assumption) | exact of_decide_eq_true (by assumption) | omega) w') ?_; with_reducible rfl) | (intro w'; refine Eq.trans (cut_both Try.underlying9 (by rfl) (by rfl) (by rfl) (by rfl) (by first | assumption | exact of_eq_true (by assumption) | exact of_decide_eq_true (by assumption) | omega) (by first | assumption | exact of_eq_true (by assumption) | exact of_decide_eq_true (by assumption) | omega) (by first | assumption | exact of_eq_true (by assumption) | exact of_decide_eq_true (by assumption) | omega) w') ?_; with_reducible rfl)
                rotate_left
                · simp only [Act.put, List.setIfInBounds_toArray, List.set_cons_zero, List.set_cons_succ, i64_w, i32_w]
                  rfl
                refine pure_ (i := 9) (N := some 40) (v := ?_) (a' := ?_) #[true, true, true, true, true, true, true, true, true, true, false, false] rfl rfl (any_of HT_.out (by kernel_rfl)) (fun _ _ _ h => h) (Or.inl ⟨by rfl, ?_⟩) ?_ ?_
                rotate_left
                · first | (intro w'; go_simp; with_reducible rfl) | (intro w'; refine Eq.trans (add_step (by rfl) (by rfl) (by rfl) (by assumption) w') ?_; with_reducible rfl) | (intro w'; refine Eq.trans (cut_hi_n Try.underlying9 (by rfl) (by rfl) (by rfl) (by first | assumption | exact of_eq_true (by assumption) | exact of_decide_eq_true (by assumption) | omega) w') ?_; with_reducible rfl) | (intro w'; refine Eq.trans (cut_hi Try.underlying9 (by rfl) (by rfl) (by rfl) (by first | assumption | exact of_eq_true (by assumption) | exact of_decide_eq_true (by assumption) | omega) (by first | assumption | exact of_eq_true (by assumption) | exact of_decide_eq_true (by assumption) | omega) w') ?_; with_reducible rfl) | (intro w'; refine Eq.trans (cut_lo Try.underlying9 (by rfl) (by rfl) (by rfl) (by first | assumption | exact of_eq_true (by assumption) | exact of_decide_eq_true (by assumption) | omega) (by first | assumption | exact of_eq_true (by assumption) | exact of_decide_eq_true (by assumption) | omega) w') ?_; with_reducible rfl) | (intro w'; refine Eq.trans (cut_both Try.underlying9 (by rfl) (by rfl) (by rfl) (by rfl) (by first | assumption | exact of_eq_true (by assumption) | exact of_decide_eq_true (by assumption) | omega) (by first | assumption | exact of_eq_true (by assumption) | exact of_decide_eq_true (by assumption) | omega) (by first | assumption | exact of_eq_true (by assumption) | exact of_decide_eq_true (by assumption) | omega) w') ?_; with_reducible rfl)
                rotate_left
                · simp only [Act.put, List.setIfInBounds_toArray, List.set_cons_zero, List.set_cons_succ, i64_w, i32_w]
                  rfl
                refine pure_ (i := 10) (N := some 41) (v := ?_) (a' := ?_) #[true, true, true, true, true, true, true, true, true, true, true, false] rfl rfl (any_of HT_.out (by kernel_rfl)) (fun _ _ _ h => h) (Or.inl ⟨by rfl, ?_⟩) ?_ ?_
                rotate_left
                · first | (intro w'; go_simp; with_reducible rfl) | (intro w'; refine Eq.trans (add_step (by rfl) (by rfl) (by rfl) (by assumption) w') ?_; with_reducible rfl) | (intro w'; refine Eq.trans (cut_hi_n Try.underlying9 (by rfl) (by rfl) (by rfl) (by first | assumption | exact of_eq_true (by assumption) | exact of_decide_eq_true (by assumption) | omega) w') ?_; with_reducible rfl) | (intro w'; refine Eq.trans (cut_hi Try.underlying9 (by rfl) (by rfl) (by rfl) (by first | assumption | exact of_eq_true (by assumption) | exact of_decide_eq_true (by assumption) | omega) (by first | assumption | exact of_eq_true (by assumption) | exact of_decide_eq_true (by assumption) | omega) w') ?_; with_reducible rfl) | (intro w'; refine Eq.trans (cut_lo Try.underlying9 (by rfl) (by rfl) (by rfl) (by first | assumption | exact of_eq_true (by assumption) | exact of_decide_eq_true (by assumption) | omega) (by first | assumption | exact of_eq_true (by assumption) | exact of_decide_eq_true (by assumption) | omega) w') ?_; with_reducible rfl) | (intro w'; refine Eq.trans (cut_both Try.underlying9 (by rfl) (by rfl) (by rfl) (by rfl) (by first | assumption | exact of_eq_true (by assumption) | exact of_decide_eq_true (by assumption) | omega) (by first | assumption | exact of_eq_true (by assumption) | exact of_decide_eq_true (by assumption) | omega) (by first | assumption | exact of_eq_true (by assumption) | exact of_decide_eq_true (by assumption) | omega) w') ?_; with_reducible rfl)
                rotate_left
                · simp only [Act.put, List.setIfInBounds_toArray, List.set_cons_zero, List.set_cons_succ, i64_w, i32_w]
                  rfl
                refine last_ (i := 11) (N := none) #[true, true, true, true, true, true, true, true, true, true, true, true] rfl rfl (one_of HT_.out (by kernel_rfl)) (by decide) (fun K hK => ?_)
                have hs19 : w18.cell? ⟨gb106, 3, none⟩ = some (.int .i64 0) := (blk_cell BK106.out 3).trans rfl
                have hfs19 := blk_frozen BK106.out 3
                refine skip_ (w1 := ?_) (by rfl) rfl ?_ ?_
                rotate_left
                · go_simp
                  rfl
                refine hK.out _ _ ?_
                clear hK K
                refine done_ (done_of HT_.out (by kernel_rfl)) ?_
                have p108 : 0 ≤ (x6_1 : Int) := of_decide_eq_true (by first | (with_reducible assumption) | assumption)
                have q108 : x6_1 < (l0.length : Int) := of_decide_eq_true (by first | (with_reducible assumption) | assumption)
                obtain ⟨ad108, e108, hx108_0, hx108_1, hx108_2, hx108_3⟩ := at_T40 HR0.out x6_1 p108 q108
                obtain rfl : ad104 = ad108 := (by injection e108)
                have hn108_0 : ad104.block ≠ gb106 := Nat.ne_of_lt (Nat.lt_of_lt_of_le (by have := World.block_lt_of_cell? _ _ hx108_0; first | rwa [add_block] at this | exact this) GW106.out)
                replace hx108_0 := (HB.out.cell (World.block_lt_of_cell? w _ hx108_0)).trans hx108_0
                replace hx108_1 := (HB.out.cell (World.block_lt_of_cell? w _ hx108_1)).trans hx108_1
                replace hx108_2 := (HB.out.cell (World.block_lt_of_cell? w _ hx108_2)).trans hx108_2
                replace hx108_3 := (HB.out.cell (World.block_lt_of_cell? w _ hx108_3)).trans hx108_3
                replace hx108_0 := (cell_far (p := ⟨gb106, 3, none⟩) (by first | (rw [add_block]; exact hn108_0) | (show (Addr.add _ _).block ≠ _; rw [add_block]; exact hn108_0) | exact hn108_0) (.int .i64 (wrap64 ((wrap64 ((Go.bits .and .i64 ((rd_T40 l0 x6_1).f2) 15) + 1)) + (Go.bits .and .i64 ((rd_T40 l0 x6_1).f3) 7))))).trans hx108_0
                replace hx108_1 := (cell_far (p := ⟨gb106, 3, none⟩) (by first | (rw [add_block]; exact hn108_0) | (show (Addr.add _ _).block ≠ _; rw [add_block]; exact hn108_0) | exact hn108_0) (.int .i64 (wrap64 ((wrap64 ((Go.bits .and .i64 ((rd_T40 l0 x6_1).f2) 15) + 1)) + (Go.bits .and .i64 ((rd_T40 l0 x6_1).f3) 7))))).trans hx108_1
                replace hx108_2 := (cell_far (p := ⟨gb106, 3, none⟩) (by first | (rw [add_block]; exact hn108_0) | (show (Addr.add _ _).block ≠ _; rw [add_block]; exact hn108_0) | exact hn108_0) (.int .i64 (wrap64 ((wrap64 ((Go.bits .and .i64 ((rd_T40 l0 x6_1).f2) 15) + 1)) + (Go.bits .and .i64 ((rd_T40 l0 x6_1).f3) 7))))).trans hx108_2
                replace hx108_3 := (cell_far (p := ⟨gb106, 3, none⟩) (by first | (rw [add_block]; exact hn108_0) | (show (Addr.add _ _).block ≠ _; rw [add_block]; exact hn108_0) | exact hn108_0) (.int .i64 (wrap64 ((wrap64 ((Go.bits .and .i64 ((rd_T40 l0 x6_1).f2) 15) + 1)) + (Go.bits .and .i64 ((rd_T40 l0 x6_1).f3) 7))))).trans hx108_3
                clear hn108_0
                replace p108 := eq_true p108
                replace q108 := eq_true q108
                go_upto_if 49 with (fail)
                go_cut [] (fun wc => ∃ (kq : Nat) (x107003_9 : Int), Aside0 (tarnlaw40_near.j2 kq l0 a1 x5_1 x6_1 ((rd_T40 l0 x6_1).f0) (⟨#[]⟩ : ByteArray) (Go.bits .and .i64 ((rd_T40 l0 x6_1).f2) 15) x107003_9 = some r) ∧ Aside0 (kq ≤ kj4) ∧ Aside0 (Kd.R k40 40 wc w.heap.size (fun k_ => k_ ≠ gb106) u5 x5_1) ∧ Aside0 (wc.heap[gb106]? = some (.cells #[.bool ((rd_T40 l0 x6_1).f0), .string (⟨#[]⟩ : ByteArray), .int .i64 (Go.bits .and .i64 ((rd_T40 l0 x6_1).f2) 15), .int .i64 x107003_9] 40 (0, 0))) ∧ Aside0 (Below w.heap.size w wc))
                case first =>
                  have H := HC10.out
                  clear HC10
                  by_cases c20 : (Go.bits .and .i64 (((rd_T40 l0 x6_1).f3) / 8) 7) = 7
                  · rw [if_pos c20] at H
                    have c20b0 : ((Go.bits .and .i64 (((rd_T40 l0 x6_1).f3) / 8) 7) == 7) = true := beq_iff_eq.mpr c20
                    have c20b1 : ((Go.bits .and .i64 (((rd_T40 l0 x6_1).f3) / 8) 7) != 7) = false := bne_eq_false_iff_eq.mpr c20
                    clear c20
                    (first | rw [c20b0] | (simp only [i64_w, i32_w]; rw [c20b0]) | rw [c20b1] | skip)
                    have H' := Aside0.mk H
                    clear H
                    have hcz21_0 : w18.cell? ⟨gb106, 0, none⟩ = some (.bool ((rd_T40 l0 x6_1).f0)) := (blk_cell BK106.out 0).trans rfl
                    have hcz21_1 : w18.cell? ⟨gb106, 1, none⟩ = some (.string (⟨#[]⟩ : ByteArray)) := (blk_cell BK106.out 1).trans rfl
                    have hcz21_2 : w18.cell? ⟨gb106, 2, none⟩ = some (.int .i64 (Go.bits .and .i64 ((rd_T40 l0 x6_1).f2) 15)) := (blk_cell BK106.out 2).trans rfl
                    have hcz21_3 : w18.cell? ⟨gb106, 3, none⟩ = some (.int .i64 0) := (blk_cell BK106.out 3).trans rfl
                    have hfz21_0 := blk_frozen BK106.out 0
                    have hfz21_1 := blk_frozen BK106.out 1
                    have hfz21_2 := blk_frozen BK106.out 2
                    have hfz21_3 := blk_frozen BK106.out 3
                    go_wp2
                    go_meet
                    case rel => exact ⟨_, (1073741824), H', ⟨by have := HK1.out; have := HJ4.out; first | omega | exact Nat.le_refl _⟩, ⟨by (with_reducible repeat (first | apply Kd.R_alloc | apply Kd.R_drewN | apply Kd.R_drew)); exact Kd.R_mono (Kd.R_far (p := ⟨gb106, 3, none⟩) (Kd.R_far (p := ⟨gb106, 3, none⟩) (Kd.R_mono HO_5.out (fun k_ hk => (⟨hk, hk⟩ : _ ∧ k_ ≠ gb106))) (fun _ hk => hk.2) (.int .i64 (wrap64 ((wrap64 ((Go.bits .and .i64 ((rd_T40 l0 x6_1).f2) 15) + 1)) + (Go.bits .and .i64 ((rd_T40 l0 x6_1).f3) 7))))) (fun _ hk => hk.2) (.int .i64 1073741824)) (fun _ hk => hk.1)⟩, ⟨by (with_reducible repeat (first | refine blk_drewN ?_ _ | refine blk_drew ?_ | refine blk_alloc ?_ _)); refine blk_put (cs := #[.bool ((rd_T40 l0 x6_1).f0), .string (⟨#[]⟩ : ByteArray), .int .i64 (Go.bits .and .i64 ((rd_T40 l0 x6_1).f2) 15), .int .i64 (wrap64 ((wrap64 ((Go.bits .and .i64 ((rd_T40 l0 x6_1).f2) 15) + 1)) + (Go.bits .and .i64 ((rd_T40 l0 x6_1).f3) 7)))]) ?_ 3 _ rfl; (with_reducible repeat (first | refine blk_drewN ?_ _ | refine blk_drew ?_ | refine blk_alloc ?_ _)); refine blk_put (cs := #[.bool ((rd_T40 l0 x6_1).f0), .string (⟨#[]⟩ : ByteArray), .int .i64 (Go.bits .and .i64 ((rd_T40 l0 x6_1).f2) 15), .int .i64 0]) ?_ 3 _ rfl; (with_reducible repeat (first | refine blk_drewN ?_ _ | refine blk_drew ?_ | refine blk_alloc ?_ _)); exact BK106.out⟩, ⟨by repeat (first | (with_reducible first | exact HB.out | apply below_alloc | apply pw_below_drewN | apply below_drew1 | refine below_set ?_ GE106.out) | exact HB.out)⟩⟩
                  · rw [if_neg c20] at H
                    have c20b0 : ((Go.bits .and .i64 (((rd_T40 l0 x6_1).f3) / 8) 7) == 7) = false := beq_eq_false_iff_ne.mpr c20
                    have c20b1 : ((Go.bits .and .i64 (((rd_T40 l0 x6_1).f3) / 8) 7) != 7) = true := bne_iff_ne.mpr c20
                    (first | rw [c20b0] | (simp only [i64_w, i32_w]; rw [c20b0]) | rw [c20b1] | skip)
                    have H' := Aside0.mk H
                    clear H
                    go_wp2
                    go_meet
                    case rel => exact ⟨_, (wrap64 ((wrap64 ((Go.bits .and .i64 ((rd_T40 l0 x6_1).f2) 15) + 1)) + (Go.bits .and .i64 ((rd_T40 l0 x6_1).f3) 7))), H', ⟨by have := HK1.out; have := HJ4.out; first | omega | exact Nat.le_refl _⟩, ⟨by (with_reducible repeat (first | apply Kd.R_alloc | apply Kd.R_drewN | apply Kd.R_drew)); exact Kd.R_mono (Kd.R_far (p := ⟨gb106, 3, none⟩) (Kd.R_mono HO_5.out (fun k_ hk => (⟨hk, hk⟩ : _ ∧ k_ ≠ gb106))) (fun _ hk => hk.2) (.int .i64 (wrap64 ((wrap64 ((Go.bits .and .i64 ((rd_T40 l0 x6_1).f2) 15) + 1)) + (Go.bits .and .i64 ((rd_T40 l0 x6_1).f3) 7))))) (fun _ hk => hk.1)⟩, ⟨by (with_reducible repeat (first | refine blk_drewN ?_ _ | refine blk_drew ?_ | refine blk_alloc ?_ _)); refine blk_put (cs := #[.bool ((rd_T40 l0 x6_1).f0), .string (⟨#[]⟩ : ByteArray), .int .i64 (Go.bits .and .i64 ((rd_T40 l0 x6_1).f2) 15), .int .i64 0]) ?_ 3 _ rfl; (with_reducible repeat (first | refine blk_drewN ?_ _ | refine blk_drew ?_ | refine blk_alloc ?_ _)); exact BK106.out⟩, ⟨by repeat (first | (with_reducible first | exact HB.out | apply below_alloc | apply pw_below_drewN | apply below_drew1 | refine below_set ?_ GE106.out) | exact HB.out)⟩⟩
                case rest =>
                  clear HC10
                  try clear c1
                  try clear p1
                  try clear q1
                  try clear hx1
                  try clear c2
                  try clear p2
                  try clear c6
                  try clear c6b0
                  try clear c6b1
                  try clear p6
                  try clear c7
                  try clear c8
                  try clear c8b0
                  try clear c9
                  try clear c9b0
                  try clear p10
                  try clear q10
                  try clear hx10
                  try clear c15
                  try clear c20
                  try clear c20b0
                  try clear c20b1
                  try clear hcz21_0
                  try clear hcz21_1
                  try clear hcz21_2
                  try clear hcz21_3
                  try clear hfz21_0
                  try clear hfz21_1
                  try clear hfz21_2
                  try clear hfz21_3
                  try clear hx104_0
                  try clear hx104_1
                  try clear hx104_2
                  try clear hx104_3
                  try clear hx105_0
                  try clear hx105_1
                  try clear hx105_2
                  try clear hx105_3
                  try clear hx107_0
                  try clear hx107_1
                  try clear hx107_2
                  try clear hx107_3
                  try clear hx108_0
                  try clear hx108_1
                  try clear hx108_2
                  try clear hx108_3
                  try clear p104
                  try clear p105
                  try clear p107
                  try clear p108
                  try clear p2
                  try clear q104
                  try clear q105
                  try clear q107
                  try clear q108
                  obtain ⟨kq, x107003_9, HA, HJ9, HO_5, BK106, HB⟩ := hcut
                  cases kq with
                  | zero => exact absurd HA.out (by simp [tarnlaw40_near.j2])
                  | succ kj9 =>
                    have H := HA.out
                    clear HA
                    simp only [tarnlaw40_near.j2] at H
                    by_cases c22 : 0 ≤ x6_1
                    · rw [if_pos c22] at H
                      have c22b0 : decide (0 ≤ x6_1) = true := decide_eq_true c22
                      clear c22
                      by_cases c23 : x6_1 < (l0.length : Int)
                      · rw [if_pos c23] at H
                        have c23b0 : decide (x6_1 < (l0.length : Int)) = true := decide_eq_true c23
                        clear c23
                        obtain ⟨y110, hy110⟩ : ∃ y_ : List Int, y_ = (([(wrap64 (97 + (Go.bits .and .i64 (((rd_T40 l0 x6_1).f1).size : Int) 3))) % 256] : List Int)) := ⟨_, rfl⟩
                        replace H : (if ((rd_T40 l0 x6_1).f0) = true then (tarnlaw40_near.j3 kj9 l0 a1 x5_1 x6_1 a1 ((rd_T40 l0 x6_1).f0) (strOfNums y110) (Go.bits .and .i64 ((rd_T40 l0 x6_1).f2) 15) x107003_9) else (tarnlaw40_near.j3 kj9 l0 a1 x5_1 x6_1 false ((rd_T40 l0 x6_1).f0) (strOfNums y110) (Go.bits .and .i64 ((rd_T40 l0 x6_1).f2) 15) x107003_9)) = some r := by first | (rw [hy110]; with_reducible exact H) | (have H2_ := (Option.bind_some _ _).symm.trans H; rw [hy110]; with_reducible exact H2_) | (have H2_ := (Option.bind_some _ _).symm.trans H; with_reducible exact H2_) | with_reducible exact H | (rw [hy110]; exact H) | exact H
                        have Ny110 := Aside0.mk hy110
                        clear hy110
                        have HC24 := Aside0.mk H
                        clear H
                        have p109 : 0 ≤ (x6_1 : Int) := of_decide_eq_true (by first | (with_reducible assumption) | assumption)
                        have q109 : x6_1 < (l0.length : Int) := of_decide_eq_true (by first | (with_reducible assumption) | assumption)
                        obtain ⟨ad109, e109, hx109_0, hx109_1, hx109_2, hx109_3⟩ := at_T40 HR0.out x6_1 p109 q109
                        obtain rfl : ad104 = ad109 := (by injection e109)
                        replace hx109_0 := (HB.out.cell (World.block_lt_of_cell? w _ hx109_0)).trans hx109_0
                        replace hx109_1 := (HB.out.cell (World.block_lt_of_cell? w _ hx109_1)).trans hx109_1
                        replace hx109_2 := (HB.out.cell (World.block_lt_of_cell? w _ hx109_2)).trans hx109_2
                        replace hx109_3 := (HB.out.cell (World.block_lt_of_cell? w _ hx109_3)).trans hx109_3
                        replace p109 := eq_true p109
                        replace q109 := eq_true q109
                        go_upto_region 10 with (first | ((with_reducible refine gate_dst (N := 60) rfl ?_); refine Kd.R_lit (Kd.int .u8) _ 5 ?hg (N := 60) ?hd (xs := ([(wrap64 (97 + (Go.bits .and .i64 (((rd_T40 l0 x6_1).f1).size : Int) 3))) % 256] : List Int)) (inner := [.int .u8 ((wrap64 (97 + (Go.bits .and .i64 (((rd_T40 l0 x6_1).f1).size : Int) 3))) % 256)]) (ok := fun _ => True) (okp := fun _ => True) ?hr ?hp (fun _ hk => hk) trivial (Below.refl _ _) (Nat.le_refl _) (by simp) ?_; (case hd => rfl); (case hg => rfl); (case hr => first | (go_simp; done) | (go_simp; rfl)); (case hp => exact (Reps.one (show Kd.M (Kd.int .u8) _ _ _ ((wrap64 (97 + (Go.bits .and .i64 (((rd_T40 l0 x6_1).f1).size : Int) 3))) % 256) [.int .u8 ((wrap64 (97 + (Go.bits .and .i64 (((rd_T40 l0 x6_1).f1).size : Int) 3))) % 256)] from rfl) (Reps.none _ _))); intro v111 w25 ho26 hb hg_ hnew_; clear hg_ hnew_; (first | rw [← Ny110.out] at ho26 | (simp only [Int.reduceToNat] at ho26; rw [← Ny110.out] at ho26)); have n0_ := Aside0.mk (Kd.R_below (by (with_reducible repeat (first | apply Kd.R_alloc | apply Kd.R_drewN | apply Kd.R_drew)); exact HO_5.out) hb); have n1_ := Aside0.mk (Kd.R_lower ho26 (below_size (by repeat (first | (with_reducible first | exact HB.out | apply below_alloc | apply pw_below_drewN | apply below_drew1 | refine below_set ?_ GE106.out) | exact HB.out)))); have n2_ := Aside0.mk (blk_below (g := gb106) (o := .cells #[.bool ((rd_T40 l0 x6_1).f0), .string (⟨#[]⟩ : ByteArray), .int .i64 (Go.bits .and .i64 ((rd_T40 l0 x6_1).f2) 15), .int .i64 x107003_9] 40 (0, 0)) (by (with_reducible repeat (first | refine blk_drewN ?_ _ | refine blk_drew ?_ | refine blk_alloc ?_ _)); exact BK106.out) hb); have n3_ := Aside0.mk (below_step (by repeat (first | (with_reducible first | exact HB.out | apply below_alloc | apply pw_below_drewN | apply below_drew1 | refine below_set ?_ GE106.out) | exact HB.out)) hb); clear HO_5; clear BK106; clear HB; have HO_5 := n0_; have HO112 := n1_; have BK106 := n2_; have HB := n3_; clear n0_ n1_ n2_ n3_; clear hb ho26; have hcv27 := own_string (P := Try.prog) Try.underlying84 Try.underlying5 Try.underlying9 (Kd.own_of_R HO112.out); have hcz28_0 : w25.cell? ⟨gb106, 0, none⟩ = some (.bool ((rd_T40 l0 x6_1).f0)) := (blk_cell BK106.out 0).trans rfl; have hcz28_1 : w25.cell? ⟨gb106, 1, none⟩ = some (.string (⟨#[]⟩ : ByteArray)) := (blk_cell BK106.out 1).trans rfl; have hcz28_2 : w25.cell? ⟨gb106, 2, none⟩ = some (.int .i64 (Go.bits .and .i64 ((rd_T40 l0 x6_1).f2) 15)) := (blk_cell BK106.out 2).trans rfl; have hcz28_3 : w25.cell? ⟨gb106, 3, none⟩ = some (.int .i64 x107003_9) := (blk_cell BK106.out 3).trans rfl; have hfz28_0 := blk_frozen BK106.out 0; have hfz28_1 := blk_frozen BK106.out 1; have hfz28_2 := blk_frozen BK106.out 2; have hfz28_3 := blk_frozen BK106.out 3))
                        (try simp only [Act.put, List.setIfInBounds_toArray, List.set_cons_zero, List.set_cons_succ])
                        go_cut [67] (fun v67 wc => ∃ (kq : Nat) (x67_23 : Bool), v67 = .bool x67_23 ∧ Aside0 (tarnlaw40_near.j3 kq l0 a1 x5_1 x6_1 x67_23 ((rd_T40 l0 x6_1).f0) (strOfNums y110) (Go.bits .and .i64 ((rd_T40 l0 x6_1).f2) 15) x107003_9 = some r) ∧ Aside0 (kq ≤ kj9) ∧ Aside0 (Kd.R k40 40 wc w.heap.size (fun k_ => k_ ≠ gb106) u5 x5_1) ∧ Aside0 (wc.heap[gb106]? = some (.cells #[.bool ((rd_T40 l0 x6_1).f0), .string (strOfNums y110), .int .i64 (Go.bits .and .i64 ((rd_T40 l0 x6_1).f2) 15), .int .i64 x107003_9] 40 (0, 0))) ∧ Aside0 (Below w.heap.size w wc))
                        case first =>
                          have H := HC24.out
                          clear HC24
                          by_cases c29 : ((rd_T40 l0 x6_1).f0) = true
                          · rw [if_pos c29] at H
                            have c29b0 : ((rd_T40 l0 x6_1).f0) = true := c29
                            clear c29
                            (first | rw [c29b0] | (simp only [i64_w, i32_w]; rw [c29b0]) | rw [c29b1] | skip)
                            have H' := Aside0.mk H
                            clear H
                            have hcz30_0 : w25.cell? ⟨gb106, 0, none⟩ = some (.bool ((rd_T40 l0 x6_1).f0)) := (blk_cell BK106.out 0).trans rfl
                            have hcz30_1 : w25.cell? ⟨gb106, 1, none⟩ = some (.string (⟨#[]⟩ : ByteArray)) := (blk_cell BK106.out 1).trans rfl
                            have hcz30_2 : w25.cell? ⟨gb106, 2, none⟩ = some (.int .i64 (Go.bits .and .i64 ((rd_T40 l0 x6_1).f2) 15)) := (blk_cell BK106.out 2).trans rfl
                            have hcz30_3 : w25.cell? ⟨gb106, 3, none⟩ = some (.int .i64 x107003_9) := (blk_cell BK106.out 3).trans rfl
                            have hfz30_0 := blk_frozen BK106.out 0
                            have hfz30_1 := blk_frozen BK106.out 1
                            have hfz30_2 := blk_frozen BK106.out 2
                            have hfz30_3 := blk_frozen BK106.out 3
                            go_wp2
                            go_meet
                            case rel => exact ⟨_, (a1), (by first | rfl | (simp; done) | (simp [*]; done)), H', ⟨by have := HK1.out; have := HJ4.out; have := HJ9.out; first | omega | exact Nat.le_refl _⟩, ⟨by (with_reducible repeat (first | apply Kd.R_alloc | apply Kd.R_drewN | apply Kd.R_drew)); exact Kd.R_mono (Kd.R_far (p := ⟨gb106, 1, none⟩) (Kd.R_mono HO_5.out (fun k_ hk => (⟨hk, hk⟩ : _ ∧ k_ ≠ gb106))) (fun _ hk => hk.2) (.string (strOfNums y110))) (fun _ hk => hk.1)⟩, ⟨by (with_reducible repeat (first | refine blk_drewN ?_ _ | refine blk_drew ?_ | refine blk_alloc ?_ _)); refine blk_put (cs := #[.bool ((rd_T40 l0 x6_1).f0), .string (⟨#[]⟩ : ByteArray), .int .i64 (Go.bits .and .i64 ((rd_T40 l0 x6_1).f2) 15), .int .i64 x107003_9]) ?_ 1 _ rfl; (with_reducible repeat (first | refine blk_drewN ?_ _ | refine blk_drew ?_ | refine blk_alloc ?_ _)); exact BK106.out⟩, ⟨by repeat (first | (with_reducible first | exact HB.out | apply below_alloc | apply pw_below_drewN | apply below_drew1 | refine below_set ?_ GE106.out) | exact HB.out)⟩⟩
                          · rw [if_neg c29] at H
                            have c29b0 : ((rd_T40 l0 x6_1).f0) = false := by simpa using c29
                            clear c29
                            (first | rw [c29b0] | (simp only [i64_w, i32_w]; rw [c29b0]) | rw [c29b1] | skip)
                            have H' := Aside0.mk H
                            clear H
                            have hcz31_0 : w25.cell? ⟨gb106, 0, none⟩ = some (.bool ((rd_T40 l0 x6_1).f0)) := (blk_cell BK106.out 0).trans rfl
                            have hcz31_1 : w25.cell? ⟨gb106, 1, none⟩ = some (.string (⟨#[]⟩ : ByteArray)) := (blk_cell BK106.out 1).trans rfl
                            have hcz31_2 : w25.cell? ⟨gb106, 2, none⟩ = some (.int .i64 (Go.bits .and .i64 ((rd_T40 l0 x6_1).f2) 15)) := (blk_cell BK106.out 2).trans rfl
                            have hcz31_3 : w25.cell? ⟨gb106, 3, none⟩ = some (.int .i64 x107003_9) := (blk_cell BK106.out 3).trans rfl
                            have hfz31_0 := blk_frozen BK106.out 0
                            have hfz31_1 := blk_frozen BK106.out 1
                            have hfz31_2 := blk_frozen BK106.out 2
                            have hfz31_3 := blk_frozen BK106.out 3
                            go_wp2
                            go_meet
                            case rel => exact ⟨_, (false), (by first | rfl | (simp; done) | (simp [*]; done)), H', ⟨by have := HK1.out; have := HJ4.out; have := HJ9.out; first | omega | exact Nat.le_refl _⟩, ⟨by (with_reducible repeat (first | apply Kd.R_alloc | apply Kd.R_drewN | apply Kd.R_drew)); exact Kd.R_mono (Kd.R_far (p := ⟨gb106, 1, none⟩) (Kd.R_mono HO_5.out (fun k_ hk => (⟨hk, hk⟩ : _ ∧ k_ ≠ gb106))) (fun _ hk => hk.2) (.string (strOfNums y110))) (fun _ hk => hk.1)⟩, ⟨by (with_reducible repeat (first | refine blk_drewN ?_ _ | refine blk_drew ?_ | refine blk_alloc ?_ _)); refine blk_put (cs := #[.bool ((rd_T40 l0 x6_1).f0), .string (⟨#[]⟩ : ByteArray), .int .i64 (Go.bits .and .i64 ((rd_T40 l0 x6_1).f2) 15), .int .i64 x107003_9]) ?_ 1 _ rfl; (with_reducible repeat (first | refine blk_drewN ?_ _ | refine blk_drew ?_ | refine blk_alloc ?_ _)); exact BK106.out⟩, ⟨by repeat (first | (with_reducible first | exact HB.out | apply below_alloc | apply pw_below_drewN | apply below_drew1 | refine below_set ?_ GE106.out) | exact HB.out)⟩⟩
                        case rest =>
                          clear HC24
                          try clear c1
                          try clear p1
                          try clear q1
                          try clear hx1
                          try clear c2
                          try clear p2
                          try clear hcv2
                          try clear c6
                          try clear c6b0
                          try clear c6b1
                          try clear p6
                          try clear c7
                          try clear c8
                          try clear c8b0
                          try clear c9
                          try clear c9b0
                          try clear p10
                          try clear q10
                          try clear hx10
                          try clear c15
                          try clear c20
                          try clear c20b0
                          try clear c20b1
                          try clear c22
                          try clear c22b0
                          try clear c23
                          try clear c23b0
                          try clear hcv27
                          try clear c29
                          try clear c29b0
                          try clear c29b1
                          try clear hcz21_0
                          try clear hcz21_1
                          try clear hcz21_2
                          try clear hcz21_3
                          try clear hcz28_0
                          try clear hcz28_1
                          try clear hcz28_2
                          try clear hcz28_3
                          try clear hcz30_0
                          try clear hcz30_1
                          try clear hcz30_2
                          try clear hcz30_3
                          try clear hcz31_0
                          try clear hcz31_1
                          try clear hcz31_2
                          try clear hcz31_3
                          try clear hfz21_0
                          try clear hfz21_1
                          try clear hfz21_2
                          try clear hfz21_3
                          try clear hfz28_0
                          try clear hfz28_1
                          try clear hfz28_2
                          try clear hfz28_3
                          try clear hfz30_0
                          try clear hfz30_1
                          try clear hfz30_2
                          try clear hfz30_3
                          try clear hfz31_0
                          try clear hfz31_1
                          try clear hfz31_2
                          try clear hfz31_3
                          try clear hx104_0
                          try clear hx104_1
                          try clear hx104_2
                          try clear hx104_3
                          try clear hx105_0
                          try clear hx105_1
                          try clear hx105_2
                          try clear hx105_3
                          try clear hx107_0
                          try clear hx107_1
                          try clear hx107_2
                          try clear hx107_3
                          try clear hx108_0
                          try clear hx108_1
                          try clear hx108_2
                          try clear hx108_3
                          try clear hx109_0
                          try clear hx109_1
                          try clear hx109_2
                          try clear hx109_3
                          try clear p1
                          try clear p10
                          try clear p104
                          try clear p105
                          try clear p107
                          try clear p108
                          try clear p109
                          try clear p2
                          try clear p6
                          try clear q1
                          try clear q10
                          try clear q104
                          try clear q105
                          try clear q107
                          try clear q108
                          try clear q109
                          obtain ⟨kq, x67_23, rfl, HA, HJ23, HO_5, BK106, HB⟩ := hcut
                          cases kq with
                          | zero => exact absurd HA.out (by simp [tarnlaw40_near.j3])
                          | succ kj23 =>
                            have H := HA.out
                            clear HA
                            simp only [tarnlaw40_near.j3] at H
                            by_cases c32 : x67_23 = true
                            · subst c32
                              have H1 : ((some (([(wrap64 (97 + x6_1)) % 256] : List Int) : List Int)).bind fun y113 => (if ((rd_T40 l0 x6_1).f0) = true then (if x5_1.length < 3518437208883 then (tarnlaw40_near.l0 kj23 l0 a1 (x5_1 ++ [(⟨((rd_T40 l0 x6_1).f0), strOfNums y113, (Go.bits .and .i64 ((rd_T40 l0 x6_1).f2) 15), x107003_9⟩ : S40)]) (wrap64 (x6_1 + 1))) else (none)) else (if a1 = true then (if 0 ≤ x6_1 then (if x6_1 < (l0.length : Int) then (if x5_1.length < 3518437208883 then (tarnlaw40_near.l0 kj23 l0 a1 (x5_1 ++ [(⟨((rd_T40 l0 x6_1).f0), strOfNums (([97 + ((((rd_T40 l0 x6_1).f1).size : Int) % 7)] : List Int)), (Go.bits .and .i64 ((rd_T40 l0 x6_1).f2) 15), x107003_9⟩ : S40)]) (wrap64 (x6_1 + 1))) else (none)) else (none)) else (none)) else (if x5_1.length < 3518437208883 then (tarnlaw40_near.l0 kj23 l0 a1 (x5_1 ++ [(⟨((rd_T40 l0 x6_1).f0), strOfNums y113, (Go.bits .and .i64 ((rd_T40 l0 x6_1).f2) 15), x107003_9⟩ : S40)]) (wrap64 (x6_1 + 1))) else (none))))) = some r := by rw [if_pos rfl] at H; exact H
                              clear H
                              have H := H1
                              clear H1
                              obtain ⟨y113, hy113⟩ : ∃ y_ : List Int, y_ = (([(wrap64 (97 + x6_1)) % 256] : List Int)) := ⟨_, rfl⟩
                              replace H : (if ((rd_T40 l0 x6_1).f0) = true then (if x5_1.length < 3518437208883 then (tarnlaw40_near.l0 kj23 l0 a1 (x5_1 ++ [(⟨((rd_T40 l0 x6_1).f0), strOfNums y113, (Go.bits .and .i64 ((rd_T40 l0 x6_1).f2) 15), x107003_9⟩ : S40)]) (wrap64 (x6_1 + 1))) else (none)) else (if a1 = true then (if 0 ≤ x6_1 then (if x6_1 < (l0.length : Int) then (if x5_1.length < 3518437208883 then (tarnlaw40_near.l0 kj23 l0 a1 (x5_1 ++ [(⟨((rd_T40 l0 x6_1).f0), strOfNums (([97 + ((((rd_T40 l0 x6_1).f1).size : Int) % 7)] : List Int)), (Go.bits .and .i64 ((rd_T40 l0 x6_1).f2) 15), x107003_9⟩ : S40)]) (wrap64 (x6_1 + 1))) else (none)) else (none)) else (none)) else (if x5_1.length < 3518437208883 then (tarnlaw40_near.l0 kj23 l0 a1 (x5_1 ++ [(⟨((rd_T40 l0 x6_1).f0), strOfNums y113, (Go.bits .and .i64 ((rd_T40 l0 x6_1).f2) 15), x107003_9⟩ : S40)]) (wrap64 (x6_1 + 1))) else (none)))) = some r := by first | (rw [hy113]; with_reducible exact H) | (have H2_ := (Option.bind_some _ _).symm.trans H; rw [hy113]; with_reducible exact H2_) | (have H2_ := (Option.bind_some _ _).symm.trans H; with_reducible exact H2_) | with_reducible exact H | (rw [hy113]; exact H) | exact H
                              have Ny113 := Aside0.mk hy113
                              clear hy113
                              by_cases c33 : ((rd_T40 l0 x6_1).f0) = true
                              · rw [if_pos c33] at H
                                have c33b0 : ((rd_T40 l0 x6_1).f0) = true := c33
                                clear c33
                                by_cases c34 : x5_1.length < 3518437208883
                                · rw [if_pos c34] at H
                                  have LMc34 := Aside0.mk c34
                                  clear c34
                                  obtain ⟨y116, hy116⟩ : ∃ y_ : List (S40), y_ = (x5_1 ++ [(⟨((rd_T40 l0 x6_1).f0), strOfNums y113, (Go.bits .and .i64 ((rd_T40 l0 x6_1).f2) 15), x107003_9⟩ : S40)]) := ⟨_, rfl⟩
                                  replace H : (tarnlaw40_near.l0 kj23 l0 a1 y116 (wrap64 (x6_1 + 1))) = some r := by first | (rw [hy116]; with_reducible exact H) | (have H2_ := (Option.bind_some _ _).symm.trans H; rw [hy116]; with_reducible exact H2_) | (have H2_ := (Option.bind_some _ _).symm.trans H; with_reducible exact H2_) | with_reducible exact H | (rw [hy116]; exact H) | exact H
                                  have Ny116 := Aside0.mk hy116
                                  clear hy116
                                  have H' := Aside0.mk H
                                  clear H
                                  go_wp2_with (first | ((with_reducible refine gate_dst (N := 71) rfl ?_); refine Kd.R_lit (Kd.int .u8) _ 5 ?hg (N := 71) ?hd (xs := ([(wrap64 (97 + x6_1)) % 256] : List Int)) (inner := [.int .u8 ((wrap64 (97 + x6_1)) % 256)]) (ok := fun _ => True) (okp := fun _ => True) ?hr ?hp (fun _ hk => hk) trivial (Below.refl _ _) (Nat.le_refl _) (by simp) ?_; (case hd => rfl); (case hg => rfl); (case hr => first | (go_simp; done) | (go_simp; rfl)); (case hp => exact (Reps.one (show Kd.M (Kd.int .u8) _ _ _ ((wrap64 (97 + x6_1)) % 256) [.int .u8 ((wrap64 (97 + x6_1)) % 256)] from rfl) (Reps.none _ _))); intro v114 w35 ho36 hb hg_ hnew_; clear hg_ hnew_; (first | rw [← Ny113.out] at ho36 | (simp only [Int.reduceToNat] at ho36; rw [← Ny113.out] at ho36)); have n0_ := Aside0.mk (Kd.R_below (by (with_reducible repeat (first | apply Kd.R_alloc | apply Kd.R_drewN | apply Kd.R_drew)); exact HO_5.out) hb); have n1_ := Aside0.mk (Kd.R_lower ho36 (below_size (by repeat (first | (with_reducible first | exact HB.out | apply below_alloc | apply pw_below_drewN | apply below_drew1 | refine below_set ?_ GE106.out) | exact HB.out)))); have n2_ := Aside0.mk (blk_below (g := gb106) (o := .cells #[.bool ((rd_T40 l0 x6_1).f0), .string (strOfNums y110), .int .i64 (Go.bits .and .i64 ((rd_T40 l0 x6_1).f2) 15), .int .i64 x107003_9] 40 (0, 0)) (by (with_reducible repeat (first | refine blk_drewN ?_ _ | refine blk_drew ?_ | refine blk_alloc ?_ _)); exact BK106.out) hb); have n3_ := Aside0.mk (below_step (by repeat (first | (with_reducible first | exact HB.out | apply below_alloc | apply pw_below_drewN | apply below_drew1 | refine below_set ?_ GE106.out) | exact HB.out)) hb); clear HO_5; clear BK106; clear HB; have HO_5 := n0_; have HO115 := n1_; have BK106 := n2_; have HB := n3_; clear n0_ n1_ n2_ n3_; clear hb ho36; have hcv37 := own_string (P := Try.prog) Try.underlying84 Try.underlying5 Try.underlying9 (Kd.own_of_R HO115.out); have hcz38_0 : w35.cell? ⟨gb106, 0, none⟩ = some (.bool ((rd_T40 l0 x6_1).f0)) := (blk_cell BK106.out 0).trans rfl; have hcz38_1 : w35.cell? ⟨gb106, 1, none⟩ = some (.string (strOfNums y110)) := (blk_cell BK106.out 1).trans rfl; have hcz38_2 : w35.cell? ⟨gb106, 2, none⟩ = some (.int .i64 (Go.bits .and .i64 ((rd_T40 l0 x6_1).f2) 15)) := (blk_cell BK106.out 2).trans rfl; have hcz38_3 : w35.cell? ⟨gb106, 3, none⟩ = some (.int .i64 x107003_9) := (blk_cell BK106.out 3).trans rfl; have hfz38_0 := blk_frozen BK106.out 0; have hfz38_1 := blk_frozen BK106.out 1; have hfz38_2 := blk_frozen BK106.out 2; have hfz38_3 := blk_frozen BK106.out 3) | ((with_reducible refine gate_builtin (b := .append) (xs := #[.tmp 92, .tmp 94]) rfl ?_); at_builtin; refine Kd.R_append k40 (w0 := w) w.heap.size rfl (.tmp 92) (.tmp 94) 34 40 (.agg #[(.bool false), (.string ⟨#[]⟩), (.int .i64 0), (.int .i64 0)]) 40 rfl Try.underlying34 info40 rfl (by decide) (by omega) u5 x5_1 (⟨true, strOfNums y113, (Go.bits .and .i64 ((rd_T40 l0 x6_1).f2) 15), x107003_9⟩ : S40) [.bool true, .string (strOfNums y113), .int .i64 (Go.bits .and .i64 ((rd_T40 l0 x6_1).f2) 15), .int .i64 x107003_9] (fun k_ => k_ ≠ gb106) (fun _ => False) rfl (by first | (go_simp; done) | (go_simp; rfl)) ?aP (fun _ hk => hk.elim) ?aF ?aO ?aB ?aS ?aL ?_; (case aP => exact k40_mkM _ _ _ (⟨true, strOfNums y113, (Go.bits .and .i64 ((rd_T40 l0 x6_1).f2) 15), x107003_9⟩ : S40)); (case aB => exact (by repeat (first | (with_reducible first | exact HB.out | apply below_alloc | apply pw_below_drewN | apply below_drew1 | refine below_set ?_ GE106.out) | exact HB.out))); (case aF => exact (fun k_ hk => Kd.freshB (g := gb106) (o := .cells #[.bool ((rd_T40 l0 x6_1).f0), .string (strOfNums y113), .int .i64 (Go.bits .and .i64 ((rd_T40 l0 x6_1).f2) 15), .int .i64 x107003_9] 40 (0, 0)) (by (with_reducible repeat (first | refine blk_drewN ?_ _ | refine blk_drew ?_ | refine blk_alloc ?_ _)); refine blk_put (cs := #[.bool ((rd_T40 l0 x6_1).f0), .string (strOfNums y110), .int .i64 (Go.bits .and .i64 ((rd_T40 l0 x6_1).f2) 15), .int .i64 x107003_9]) ?_ 1 _ rfl; (with_reducible repeat (first | refine blk_drewN ?_ _ | refine blk_drew ?_ | refine blk_alloc ?_ _)); exact BK106.out) k_ hk)); (case aO => exact (by (with_reducible repeat (first | apply Kd.R_alloc | apply Kd.R_drewN | apply Kd.R_drew)); exact Kd.R_mono (Kd.R_far (p := ⟨gb106, 1, none⟩) (Kd.R_mono HO_5.out (fun k_ hk => (⟨hk, hk⟩ : _ ∧ k_ ≠ gb106))) (fun _ hk => hk.2) (.string (strOfNums y113))) (fun _ hk => hk.1))); (case aS => exact (below_size (by repeat (first | (with_reducible first | exact HB.out | apply below_alloc | apply pw_below_drewN | apply below_drew1 | refine below_set ?_ GE106.out) | exact HB.out)))); (case aL => have := LMc34.out; omega); intro v117 w39 ho hb hg hat; rw [← c33b0] at ho; rw [← Ny116.out] at ho; have n0_ := Aside0.mk (blk_grown (g := gb106) (o := .cells #[.bool ((rd_T40 l0 x6_1).f0), .string (strOfNums y113), .int .i64 (Go.bits .and .i64 ((rd_T40 l0 x6_1).f2) 15), .int .i64 x107003_9] 40 (0, 0)) (by (with_reducible repeat (first | refine blk_drewN ?_ _ | refine blk_drew ?_ | refine blk_alloc ?_ _)); refine blk_put (cs := #[.bool ((rd_T40 l0 x6_1).f0), .string (strOfNums y110), .int .i64 (Go.bits .and .i64 ((rd_T40 l0 x6_1).f2) 15), .int .i64 x107003_9]) ?_ 1 _ rfl; (with_reducible repeat (first | refine blk_drewN ?_ _ | refine blk_drew ?_ | refine blk_alloc ?_ _)); exact BK106.out) hg (Kd.R_away HO_5.out (fun _ hk => hk))); have n1_ := Aside0.mk (Kd.R_over' (by (with_reducible repeat (first | apply Kd.R_alloc | apply Kd.R_drewN | apply Kd.R_drew)); exact (Kd.R_mono (Kd.R_far (p := ⟨gb106, 1, none⟩) (Kd.R_types HO115.out BK106.out (by decide)) (fun _ hk => hk.2) (.string (strOfNums y113))) (fun _ h_ => h_.1))) (Kd.R_typed (by (with_reducible repeat (first | apply Kd.R_alloc | apply Kd.R_drewN | apply Kd.R_drew)); exact (Kd.R_mono (Kd.R_far (p := ⟨gb106, 1, none⟩) (Kd.R_mono HO_5.out (fun k_ hk => (⟨hk, hk⟩ : _ ∧ k_ ≠ gb106))) (fun _ hk => hk.2) (.string (strOfNums y113))) (fun _ h_ => h_.1)))) (by decide) hg); have n2_ := Aside0.mk (hb); have n3_ := Aside0.mk (ho); clear BK106; clear HO115; clear HB; clear HO_5; have BK106 := n0_; have HO115 := n1_; have HB := n2_; have HO118 := n3_; clear n0_ n1_ n2_ n3_; clear ho hb hg hat))
                                  go_roundg kj23
                                  case measure => have := HK1.out; have := HJ4.out; have := HJ9.out; have := HJ23.out; omega
                                  case rel => exact ⟨(y116), (wrap64 (x6_1 + 1)), (by first | rfl | (simp; done) | (simp [*]; done)), H', ⟨by have := HK1.out; have := HJ4.out; have := HJ9.out; have := HJ23.out; omega⟩, ⟨by (with_reducible repeat (first | apply Kd.R_alloc | apply Kd.R_drewN | apply Kd.R_drew)); exact Kd.R_mono HO118.out (fun _ hk => trivial)⟩, ⟨by repeat (first | (with_reducible first | exact HB.out | apply below_alloc | apply pw_below_drewN | apply below_drew1 | refine below_set ?_ GE106.out) | exact HB.out)⟩⟩
                                · rw [if_neg c34] at H
                                  exact absurd H (by simp)
                              · rw [if_neg c33] at H
                                have c33b0 : ((rd_T40 l0 x6_1).f0) = false := by simpa using c33
                                clear c33
                                by_cases c40 : a1 = true
                                · subst c40
                                  have H1 : (if 0 ≤ x6_1 then (if x6_1 < (l0.length : Int) then (if x5_1.length < 3518437208883 then (tarnlaw40_near.l0 kj23 l0 true (x5_1 ++ [(⟨((rd_T40 l0 x6_1).f0), strOfNums (([97 + ((((rd_T40 l0 x6_1).f1).size : Int) % 7)] : List Int)), (Go.bits .and .i64 ((rd_T40 l0 x6_1).f2) 15), x107003_9⟩ : S40)]) (wrap64 (x6_1 + 1))) else (none)) else (none)) else (none)) = some r := by rw [if_pos rfl] at H; exact H
                                  clear H
                                  have H := H1
                                  clear H1
                                  by_cases c41 : 0 ≤ x6_1
                                  · rw [if_pos c41] at H
                                    have c41b0 : decide (0 ≤ x6_1) = true := decide_eq_true c41
                                    clear c41
                                    by_cases c42 : x6_1 < (l0.length : Int)
                                    · rw [if_pos c42] at H
                                      have c42b0 : decide (x6_1 < (l0.length : Int)) = true := decide_eq_true c42
                                      clear c42
                                      obtain ⟨y120, hy120⟩ : ∃ y_ : List Int, y_ = (([97 + ((((rd_T40 l0 x6_1).f1).size : Int) % 7)] : List Int)) := ⟨_, rfl⟩
                                      replace H : (if x5_1.length < 3518437208883 then (tarnlaw40_near.l0 kj23 l0 true (x5_1 ++ [(⟨((rd_T40 l0 x6_1).f0), strOfNums y120, (Go.bits .and .i64 ((rd_T40 l0 x6_1).f2) 15), x107003_9⟩ : S40)]) (wrap64 (x6_1 + 1))) else (none)) = some r := by first | (rw [hy120]; with_reducible exact H) | (have H2_ := (Option.bind_some _ _).symm.trans H; rw [hy120]; with_reducible exact H2_) | (have H2_ := (Option.bind_some _ _).symm.trans H; with_reducible exact H2_) | with_reducible exact H | (rw [hy120]; exact H) | exact H
                                      have Ny120 := Aside0.mk hy120
                                      clear hy120
                                      by_cases c43 : x5_1.length < 3518437208883
                                      · rw [if_pos c43] at H
                                        have LMc43 := Aside0.mk c43
                                        clear c43
                                        obtain ⟨y123, hy123⟩ : ∃ y_ : List (S40), y_ = (x5_1 ++ [(⟨((rd_T40 l0 x6_1).f0), strOfNums y120, (Go.bits .and .i64 ((rd_T40 l0 x6_1).f2) 15), x107003_9⟩ : S40)]) := ⟨_, rfl⟩
                                        replace H : (tarnlaw40_near.l0 kj23 l0 true y123 (wrap64 (x6_1 + 1))) = some r := by first | (rw [hy123]; with_reducible exact H) | (have H2_ := (Option.bind_some _ _).symm.trans H; rw [hy123]; with_reducible exact H2_) | (have H2_ := (Option.bind_some _ _).symm.trans H; with_reducible exact H2_) | with_reducible exact H | (rw [hy123]; exact H) | exact H
                                        have Ny123 := Aside0.mk hy123
                                        clear hy123
                                        have H' := Aside0.mk H
                                        clear H
                                        go_wp2_with (first | ((with_reducible refine gate_dst (N := 71) rfl ?_); refine Kd.R_lit (Kd.int .u8) _ 5 ?hg (N := 71) ?hd (xs := ([(wrap64 (97 + x6_1)) % 256] : List Int)) (inner := [.int .u8 ((wrap64 (97 + x6_1)) % 256)]) (ok := fun _ => True) (okp := fun _ => True) ?hr ?hp (fun _ hk => hk) trivial (Below.refl _ _) (Nat.le_refl _) (by simp) ?_; (case hd => rfl); (case hg => rfl); (case hr => first | (go_simp; done) | (go_simp; rfl)); (case hp => exact (Reps.one (show Kd.M (Kd.int .u8) _ _ _ ((wrap64 (97 + x6_1)) % 256) [.int .u8 ((wrap64 (97 + x6_1)) % 256)] from rfl) (Reps.none _ _))); intro v114 w44 ho45 hb hg_ hnew_; clear hg_ hnew_; (first | rw [← Ny113.out] at ho45 | (simp only [Int.reduceToNat] at ho45; rw [← Ny113.out] at ho45)); have n0_ := Aside0.mk (Kd.R_below (by (with_reducible repeat (first | apply Kd.R_alloc | apply Kd.R_drewN | apply Kd.R_drew)); exact HO_5.out) hb); have n1_ := Aside0.mk (Kd.R_lower ho45 (below_size (by repeat (first | (with_reducible first | exact HB.out | apply below_alloc | apply pw_below_drewN | apply below_drew1 | refine below_set ?_ GE106.out) | exact HB.out)))); have n2_ := Aside0.mk (blk_below (g := gb106) (o := .cells #[.bool ((rd_T40 l0 x6_1).f0), .string (strOfNums y110), .int .i64 (Go.bits .and .i64 ((rd_T40 l0 x6_1).f2) 15), .int .i64 x107003_9] 40 (0, 0)) (by (with_reducible repeat (first | refine blk_drewN ?_ _ | refine blk_drew ?_ | refine blk_alloc ?_ _)); exact BK106.out) hb); have n3_ := Aside0.mk (below_step (by repeat (first | (with_reducible first | exact HB.out | apply below_alloc | apply pw_below_drewN | apply below_drew1 | refine below_set ?_ GE106.out) | exact HB.out)) hb); clear HO_5; clear BK106; clear HB; have HO_5 := n0_; have HO115 := n1_; have BK106 := n2_; have HB := n3_; clear n0_ n1_ n2_ n3_; clear hb ho45; have hcv46 := own_string (P := Try.prog) Try.underlying84 Try.underlying5 Try.underlying9 (Kd.own_of_R HO115.out); have hcz47_0 : w44.cell? ⟨gb106, 0, none⟩ = some (.bool ((rd_T40 l0 x6_1).f0)) := (blk_cell BK106.out 0).trans rfl; have hcz47_1 : w44.cell? ⟨gb106, 1, none⟩ = some (.string (strOfNums y110)) := (blk_cell BK106.out 1).trans rfl; have hcz47_2 : w44.cell? ⟨gb106, 2, none⟩ = some (.int .i64 (Go.bits .and .i64 ((rd_T40 l0 x6_1).f2) 15)) := (blk_cell BK106.out 2).trans rfl; have hcz47_3 : w44.cell? ⟨gb106, 3, none⟩ = some (.int .i64 x107003_9) := (blk_cell BK106.out 3).trans rfl; have hfz47_0 := blk_frozen BK106.out 0; have hfz47_1 := blk_frozen BK106.out 1; have hfz47_2 := blk_frozen BK106.out 2; have hfz47_3 := blk_frozen BK106.out 3; have p119 : 0 ≤ (x6_1 : Int) := of_decide_eq_true (by first | (with_reducible assumption) | assumption); have q119 : x6_1 < (l0.length : Int) := of_decide_eq_true (by first | (with_reducible assumption) | assumption); obtain ⟨ad119, e119, hx119_0, hx119_1, hx119_2, hx119_3⟩ := at_T40 HR0.out x6_1 p119 q119; obtain rfl : ad104 = ad119 := (by injection e119); have hn119_0 : ad104.block ≠ gb106 := Nat.ne_of_lt (Nat.lt_of_lt_of_le (by have := World.block_lt_of_cell? _ _ hx119_0; first | rwa [add_block] at this | exact this) GW106.out); replace hx119_0 := (HB.out.cell (World.block_lt_of_cell? w _ hx119_0)).trans hx119_0; replace hx119_1 := (HB.out.cell (World.block_lt_of_cell? w _ hx119_1)).trans hx119_1; replace hx119_2 := (HB.out.cell (World.block_lt_of_cell? w _ hx119_2)).trans hx119_2; replace hx119_3 := (HB.out.cell (World.block_lt_of_cell? w _ hx119_3)).trans hx119_3; replace hx119_0 := (cell_far (p := ⟨gb106, 1, none⟩) (by first | (rw [add_block]; exact hn119_0) | (show (Addr.add _ _).block ≠ _; rw [add_block]; exact hn119_0) | exact hn119_0) (.string (strOfNums y113))).trans hx119_0; replace hx119_1 := (cell_far (p := ⟨gb106, 1, none⟩) (by first | (rw [add_block]; exact hn119_0) | (show (Addr.add _ _).block ≠ _; rw [add_block]; exact hn119_0) | exact hn119_0) (.string (strOfNums y113))).trans hx119_1; replace hx119_2 := (cell_far (p := ⟨gb106, 1, none⟩) (by first | (rw [add_block]; exact hn119_0) | (show (Addr.add _ _).block ≠ _; rw [add_block]; exact hn119_0) | exact hn119_0) (.string (strOfNums y113))).trans hx119_2; replace hx119_3 := (cell_far (p := ⟨gb106, 1, none⟩) (by first | (rw [add_block]; exact hn119_0) | (show (Addr.add _ _).block ≠ _; rw [add_block]; exact hn119_0) | exact hn119_0) (.string (strOfNums y113))).trans hx119_3; clear hn119_0; replace p119 := eq_true p119; replace q119 := eq_true q119) | ((with_reducible refine gate_dst (N := 89) rfl ?_); refine Kd.R_lit (Kd.int .u8) _ 5 ?hg (N := 89) ?hd (xs := ([97 + ((((rd_T40 l0 x6_1).f1).size : Int) % 7)] : List Int)) (inner := [.int .u8 (97 + ((((rd_T40 l0 x6_1).f1).size : Int) % 7))]) (ok := fun _ => True) (okp := fun _ => True) ?hr ?hp (fun _ hk => hk) trivial (Below.refl _ _) (Nat.le_refl _) (by simp) ?_; (case hd => rfl); (case hg => rfl); (case hr => first | (go_simp; done) | (go_simp; rfl)); (case hp => exact (Reps.one (show Kd.M (Kd.int .u8) _ _ _ (97 + ((((rd_T40 l0 x6_1).f1).size : Int) % 7)) [.int .u8 (97 + ((((rd_T40 l0 x6_1).f1).size : Int) % 7))] from rfl) (Reps.none _ _))); intro v121 w48 ho49 hb hg_ hnew_; clear hg_ hnew_; (first | rw [← Ny120.out] at ho49 | (simp only [Int.reduceToNat] at ho49; rw [← Ny120.out] at ho49)); have n0_ := Aside0.mk (Kd.R_below (by (with_reducible repeat (first | apply Kd.R_alloc | apply Kd.R_drewN | apply Kd.R_drew)); exact (Kd.R_mono (Kd.R_far (p := ⟨gb106, 1, none⟩) (Kd.R_mono HO_5.out (fun k_ hk => (⟨hk, hk⟩ : _ ∧ k_ ≠ gb106))) (fun _ hk => hk.2) (.string (strOfNums y113))) (fun _ h_ => h_.1))) hb); have n1_ := Aside0.mk (Kd.R_elder' (by (with_reducible repeat (first | apply Kd.R_alloc | apply Kd.R_drewN | apply Kd.R_drew)); exact (Kd.R_mono (Kd.R_far (p := ⟨gb106, 1, none⟩) (Kd.R_types HO115.out BK106.out (by decide)) (fun _ hk => hk.2) (.string (strOfNums y113))) (fun _ h_ => h_.1))) (Kd.R_base ho49) hb); have n2_ := Aside0.mk (Kd.R_lower (Kd.R_new' ho49 (Kd.R_lt (by (with_reducible repeat (first | apply Kd.R_alloc | apply Kd.R_drewN | apply Kd.R_drew)); exact (Kd.R_mono (Kd.R_far (p := ⟨gb106, 1, none⟩) (Kd.R_types HO115.out BK106.out (by decide)) (fun _ hk => hk.2) (.string (strOfNums y113))) (fun _ h_ => h_.1))))) (below_size (by repeat (first | (with_reducible first | exact HB.out | apply below_alloc | apply pw_below_drewN | apply below_drew1 | refine below_set ?_ GE106.out) | exact HB.out)))); have n3_ := Aside0.mk (blk_below (g := gb106) (o := .cells #[.bool ((rd_T40 l0 x6_1).f0), .string (strOfNums y113), .int .i64 (Go.bits .and .i64 ((rd_T40 l0 x6_1).f2) 15), .int .i64 x107003_9] 40 (0, 0)) (by (with_reducible repeat (first | refine blk_drewN ?_ _ | refine blk_drew ?_ | refine blk_alloc ?_ _)); refine blk_put (cs := #[.bool ((rd_T40 l0 x6_1).f0), .string (strOfNums y110), .int .i64 (Go.bits .and .i64 ((rd_T40 l0 x6_1).f2) 15), .int .i64 x107003_9]) ?_ 1 _ rfl; (with_reducible repeat (first | refine blk_drewN ?_ _ | refine blk_drew ?_ | refine blk_alloc ?_ _)); exact BK106.out) hb); have n4_ := Aside0.mk (below_step (by repeat (first | (with_reducible first | exact HB.out | apply below_alloc | apply pw_below_drewN | apply below_drew1 | refine below_set ?_ GE106.out) | exact HB.out)) hb); clear HO_5; clear HO115; clear BK106; clear HB; have HO_5 := n0_; have HO115 := n1_; have HO122 := n2_; have BK106 := n3_; have HB := n4_; clear n0_ n1_ n2_ n3_ n4_; clear hb ho49; have hcv50 := own_string (P := Try.prog) Try.underlying84 Try.underlying5 Try.underlying9 (Kd.own_of_R HO122.out); have hcz51_0 : w48.cell? ⟨gb106, 0, none⟩ = some (.bool ((rd_T40 l0 x6_1).f0)) := (blk_cell BK106.out 0).trans rfl; have hcz51_1 : w48.cell? ⟨gb106, 1, none⟩ = some (.string (strOfNums y113)) := (blk_cell BK106.out 1).trans rfl; have hcz51_2 : w48.cell? ⟨gb106, 2, none⟩ = some (.int .i64 (Go.bits .and .i64 ((rd_T40 l0 x6_1).f2) 15)) := (blk_cell BK106.out 2).trans rfl; have hcz51_3 : w48.cell? ⟨gb106, 3, none⟩ = some (.int .i64 x107003_9) := (blk_cell BK106.out 3).trans rfl; have hfz51_0 := blk_frozen BK106.out 0; have hfz51_1 := blk_frozen BK106.out 1; have hfz51_2 := blk_frozen BK106.out 2; have hfz51_3 := blk_frozen BK106.out 3) | ((with_reducible refine gate_builtin (b := .append) (xs := #[.tmp 92, .tmp 94]) rfl ?_); at_builtin; refine Kd.R_append k40 (w0 := w) w.heap.size rfl (.tmp 92) (.tmp 94) 34 40 (.agg #[(.bool false), (.string ⟨#[]⟩), (.int .i64 0), (.int .i64 0)]) 40 rfl Try.underlying34 info40 rfl (by decide) (by omega) u5 x5_1 (⟨false, strOfNums y120, (Go.bits .and .i64 ((rd_T40 l0 x6_1).f2) 15), x107003_9⟩ : S40) [.bool false, .string (strOfNums y120), .int .i64 (Go.bits .and .i64 ((rd_T40 l0 x6_1).f2) 15), .int .i64 x107003_9] (fun k_ => k_ ≠ gb106) (fun _ => False) rfl (by first | (go_simp; done) | (go_simp; rfl)) ?aP (fun _ hk => hk.elim) ?aF ?aO ?aB ?aS ?aL ?_; (case aP => exact k40_mkM _ _ _ (⟨false, strOfNums y120, (Go.bits .and .i64 ((rd_T40 l0 x6_1).f2) 15), x107003_9⟩ : S40)); (case aB => exact (by repeat (first | (with_reducible first | exact HB.out | apply below_alloc | apply pw_below_drewN | apply below_drew1 | refine below_set ?_ GE106.out) | exact HB.out))); (case aF => exact (fun k_ hk => Kd.freshB (g := gb106) (o := .cells #[.bool ((rd_T40 l0 x6_1).f0), .string (strOfNums y120), .int .i64 (Go.bits .and .i64 ((rd_T40 l0 x6_1).f2) 15), .int .i64 x107003_9] 40 (0, 0)) (by (with_reducible repeat (first | refine blk_drewN ?_ _ | refine blk_drew ?_ | refine blk_alloc ?_ _)); refine blk_put (cs := #[.bool ((rd_T40 l0 x6_1).f0), .string (strOfNums y113), .int .i64 (Go.bits .and .i64 ((rd_T40 l0 x6_1).f2) 15), .int .i64 x107003_9]) ?_ 1 _ rfl; (with_reducible repeat (first | refine blk_drewN ?_ _ | refine blk_drew ?_ | refine blk_alloc ?_ _)); exact BK106.out) k_ hk)); (case aO => exact (by (with_reducible repeat (first | apply Kd.R_alloc | apply Kd.R_drewN | apply Kd.R_drew)); exact Kd.R_mono (Kd.R_far (p := ⟨gb106, 1, none⟩) (Kd.R_mono HO_5.out (fun k_ hk => (⟨hk, hk⟩ : _ ∧ k_ ≠ gb106))) (fun _ hk => hk.2) (.string (strOfNums y120))) (fun _ hk => hk.1))); (case aS => exact (below_size (by repeat (first | (with_reducible first | exact HB.out | apply below_alloc | apply pw_below_drewN | apply below_drew1 | refine below_set ?_ GE106.out) | exact HB.out)))); (case aL => have := LMc43.out; omega); intro v124 w52 ho hb hg hat; rw [← c33b0] at ho; rw [← Ny123.out] at ho; have n0_ := Aside0.mk (blk_grown (g := gb106) (o := .cells #[.bool ((rd_T40 l0 x6_1).f0), .string (strOfNums y120), .int .i64 (Go.bits .and .i64 ((rd_T40 l0 x6_1).f2) 15), .int .i64 x107003_9] 40 (0, 0)) (by (with_reducible repeat (first | refine blk_drewN ?_ _ | refine blk_drew ?_ | refine blk_alloc ?_ _)); refine blk_put (cs := #[.bool ((rd_T40 l0 x6_1).f0), .string (strOfNums y113), .int .i64 (Go.bits .and .i64 ((rd_T40 l0 x6_1).f2) 15), .int .i64 x107003_9]) ?_ 1 _ rfl; (with_reducible repeat (first | refine blk_drewN ?_ _ | refine blk_drew ?_ | refine blk_alloc ?_ _)); exact BK106.out) hg (Kd.R_away HO_5.out (fun _ hk => hk))); have n1_ := Aside0.mk (Kd.R_over' (by (with_reducible repeat (first | apply Kd.R_alloc | apply Kd.R_drewN | apply Kd.R_drew)); exact (Kd.R_mono (Kd.R_far (p := ⟨gb106, 1, none⟩) (Kd.R_types HO115.out BK106.out (by decide)) (fun _ hk => hk.2) (.string (strOfNums y120))) (fun _ h_ => h_.1))) (Kd.R_typed (by (with_reducible repeat (first | apply Kd.R_alloc | apply Kd.R_drewN | apply Kd.R_drew)); exact (Kd.R_mono (Kd.R_far (p := ⟨gb106, 1, none⟩) (Kd.R_mono HO_5.out (fun k_ hk => (⟨hk, hk⟩ : _ ∧ k_ ≠ gb106))) (fun _ hk => hk.2) (.string (strOfNums y120))) (fun _ h_ => h_.1)))) (by decide) hg); have n2_ := Aside0.mk (Kd.R_over' (by (with_reducible repeat (first | apply Kd.R_alloc | apply Kd.R_drewN | apply Kd.R_drew)); exact (Kd.R_mono (Kd.R_far (p := ⟨gb106, 1, none⟩) (Kd.R_types HO122.out BK106.out (by decide)) (fun _ hk => hk.2) (.string (strOfNums y120))) (fun _ h_ => h_.1))) (Kd.R_typed (by (with_reducible repeat (first | apply Kd.R_alloc | apply Kd.R_drewN | apply Kd.R_drew)); exact (Kd.R_mono (Kd.R_far (p := ⟨gb106, 1, none⟩) (Kd.R_mono HO_5.out (fun k_ hk => (⟨hk, hk⟩ : _ ∧ k_ ≠ gb106))) (fun _ hk => hk.2) (.string (strOfNums y120))) (fun _ h_ => h_.1)))) (by decide) hg); have n3_ := Aside0.mk (hb); have n4_ := Aside0.mk (ho); clear BK106; clear HO115; clear HO122; clear HB; clear HO_5; have BK106 := n0_; have HO115 := n1_; have HO122 := n2_; have HB := n3_; have HO125 := n4_; clear n0_ n1_ n2_ n3_ n4_; clear ho hb hg hat))
                                        go_roundg kj23
                                        case measure => have := HK1.out; have := HJ4.out; have := HJ9.out; have := HJ23.out; omega
                                        case rel => exact ⟨(y123), (wrap64 (x6_1 + 1)), (by first | rfl | (simp; done) | (simp [*]; done)), H', ⟨by have := HK1.out; have := HJ4.out; have := HJ9.out; have := HJ23.out; omega⟩, ⟨by (with_reducible repeat (first | apply Kd.R_alloc | apply Kd.R_drewN | apply Kd.R_drew)); exact Kd.R_mono HO125.out (fun _ hk => trivial)⟩, ⟨by repeat (first | (with_reducible first | exact HB.out | apply below_alloc | apply pw_below_drewN | apply below_drew1 | refine below_set ?_ GE106.out) | exact HB.out)⟩⟩
                                      · rw [if_neg c43] at H
                                        exact absurd H (by simp)
                                    · rw [if_neg c42] at H
                                      exact absurd H (by simp)
                                  · rw [if_neg c41] at H
                                    exact absurd H (by simp)
                                · replace c40 := Bool.eq_false_iff.mpr c40
                                  subst c40
                                  have H1 : (if x5_1.length < 3518437208883 then (tarnlaw40_near.l0 kj23 l0 false (x5_1 ++ [(⟨((rd_T40 l0 x6_1).f0), strOfNums y113, (Go.bits .and .i64 ((rd_T40 l0 x6_1).f2) 15), x107003_9⟩ : S40)]) (wrap64 (x6_1 + 1))) else (none)) = some r := by rw [if_neg (show ¬ (false = true) by decide)] at H; exact H
                                  clear H
                                  have H := H1
                                  clear H1
                                  by_cases c53 : x5_1.length < 3518437208883
                                  · rw [if_pos c53] at H
                                    have LMc53 := Aside0.mk c53
                                    clear c53
                                    obtain ⟨y126, hy126⟩ : ∃ y_ : List (S40), y_ = (x5_1 ++ [(⟨((rd_T40 l0 x6_1).f0), strOfNums y113, (Go.bits .and .i64 ((rd_T40 l0 x6_1).f2) 15), x107003_9⟩ : S40)]) := ⟨_, rfl⟩
                                    replace H : (tarnlaw40_near.l0 kj23 l0 false y126 (wrap64 (x6_1 + 1))) = some r := by first | (rw [hy126]; with_reducible exact H) | (have H2_ := (Option.bind_some _ _).symm.trans H; rw [hy126]; with_reducible exact H2_) | (have H2_ := (Option.bind_some _ _).symm.trans H; with_reducible exact H2_) | with_reducible exact H | (rw [hy126]; exact H) | exact H
                                    have Ny126 := Aside0.mk hy126
                                    clear hy126
                                    have H' := Aside0.mk H
                                    clear H
                                    go_wp2_with (first | ((with_reducible refine gate_dst (N := 71) rfl ?_); refine Kd.R_lit (Kd.int .u8) _ 5 ?hg (N := 71) ?hd (xs := ([(wrap64 (97 + x6_1)) % 256] : List Int)) (inner := [.int .u8 ((wrap64 (97 + x6_1)) % 256)]) (ok := fun _ => True) (okp := fun _ => True) ?hr ?hp (fun _ hk => hk) trivial (Below.refl _ _) (Nat.le_refl _) (by simp) ?_; (case hd => rfl); (case hg => rfl); (case hr => first | (go_simp; done) | (go_simp; rfl)); (case hp => exact (Reps.one (show Kd.M (Kd.int .u8) _ _ _ ((wrap64 (97 + x6_1)) % 256) [.int .u8 ((wrap64 (97 + x6_1)) % 256)] from rfl) (Reps.none _ _))); intro v114 w54 ho55 hb hg_ hnew_; clear hg_ hnew_; (first | rw [← Ny113.out] at ho55 | (simp only [Int.reduceToNat] at ho55; rw [← Ny113.out] at ho55)); have n0_ := Aside0.mk (Kd.R_below (by (with_reducible repeat (first | apply Kd.R_alloc | apply Kd.R_drewN | apply Kd.R_drew)); exact HO_5.out) hb); have n1_ := Aside0.mk (Kd.R_lower ho55 (below_size (by repeat (first | (with_reducible first | exact HB.out | apply below_alloc | apply pw_below_drewN | apply below_drew1 | refine below_set ?_ GE106.out) | exact HB.out)))); have n2_ := Aside0.mk (blk_below (g := gb106) (o := .cells #[.bool ((rd_T40 l0 x6_1).f0), .string (strOfNums y110), .int .i64 (Go.bits .and .i64 ((rd_T40 l0 x6_1).f2) 15), .int .i64 x107003_9] 40 (0, 0)) (by (with_reducible repeat (first | refine blk_drewN ?_ _ | refine blk_drew ?_ | refine blk_alloc ?_ _)); exact BK106.out) hb); have n3_ := Aside0.mk (below_step (by repeat (first | (with_reducible first | exact HB.out | apply below_alloc | apply pw_below_drewN | apply below_drew1 | refine below_set ?_ GE106.out) | exact HB.out)) hb); clear HO_5; clear BK106; clear HB; have HO_5 := n0_; have HO115 := n1_; have BK106 := n2_; have HB := n3_; clear n0_ n1_ n2_ n3_; clear hb ho55; have hcv56 := own_string (P := Try.prog) Try.underlying84 Try.underlying5 Try.underlying9 (Kd.own_of_R HO115.out); have hcz57_0 : w54.cell? ⟨gb106, 0, none⟩ = some (.bool ((rd_T40 l0 x6_1).f0)) := (blk_cell BK106.out 0).trans rfl; have hcz57_1 : w54.cell? ⟨gb106, 1, none⟩ = some (.string (strOfNums y110)) := (blk_cell BK106.out 1).trans rfl; have hcz57_2 : w54.cell? ⟨gb106, 2, none⟩ = some (.int .i64 (Go.bits .and .i64 ((rd_T40 l0 x6_1).f2) 15)) := (blk_cell BK106.out 2).trans rfl; have hcz57_3 : w54.cell? ⟨gb106, 3, none⟩ = some (.int .i64 x107003_9) := (blk_cell BK106.out 3).trans rfl; have hfz57_0 := blk_frozen BK106.out 0; have hfz57_1 := blk_frozen BK106.out 1; have hfz57_2 := blk_frozen BK106.out 2; have hfz57_3 := blk_frozen BK106.out 3) | ((with_reducible refine gate_builtin (b := .append) (xs := #[.tmp 92, .tmp 94]) rfl ?_); at_builtin; refine Kd.R_append k40 (w0 := w) w.heap.size rfl (.tmp 92) (.tmp 94) 34 40 (.agg #[(.bool false), (.string ⟨#[]⟩), (.int .i64 0), (.int .i64 0)]) 40 rfl Try.underlying34 info40 rfl (by decide) (by omega) u5 x5_1 (⟨false, strOfNums y113, (Go.bits .and .i64 ((rd_T40 l0 x6_1).f2) 15), x107003_9⟩ : S40) [.bool false, .string (strOfNums y113), .int .i64 (Go.bits .and .i64 ((rd_T40 l0 x6_1).f2) 15), .int .i64 x107003_9] (fun k_ => k_ ≠ gb106) (fun _ => False) rfl (by first | (go_simp; done) | (go_simp; rfl)) ?aP (fun _ hk => hk.elim) ?aF ?aO ?aB ?aS ?aL ?_; (case aP => exact k40_mkM _ _ _ (⟨false, strOfNums y113, (Go.bits .and .i64 ((rd_T40 l0 x6_1).f2) 15), x107003_9⟩ : S40)); (case aB => exact (by repeat (first | (with_reducible first | exact HB.out | apply below_alloc | apply pw_below_drewN | apply below_drew1 | refine below_set ?_ GE106.out) | exact HB.out))); (case aF => exact (fun k_ hk => Kd.freshB (g := gb106) (o := .cells #[.bool ((rd_T40 l0 x6_1).f0), .string (strOfNums y113), .int .i64 (Go.bits .and .i64 ((rd_T40 l0 x6_1).f2) 15), .int .i64 x107003_9] 40 (0, 0)) (by (with_reducible repeat (first | refine blk_drewN ?_ _ | refine blk_drew ?_ | refine blk_alloc ?_ _)); refine blk_put (cs := #[.bool ((rd_T40 l0 x6_1).f0), .string (strOfNums y110), .int .i64 (Go.bits .and .i64 ((rd_T40 l0 x6_1).f2) 15), .int .i64 x107003_9]) ?_ 1 _ rfl; (with_reducible repeat (first | refine blk_drewN ?_ _ | refine blk_drew ?_ | refine blk_alloc ?_ _)); exact BK106.out) k_ hk)); (case aO => exact (by (with_reducible repeat (first | apply Kd.R_alloc | apply Kd.R_drewN | apply Kd.R_drew)); exact Kd.R_mono (Kd.R_far (p := ⟨gb106, 1, none⟩) (Kd.R_mono HO_5.out (fun k_ hk => (⟨hk, hk⟩ : _ ∧ k_ ≠ gb106))) (fun _ hk => hk.2) (.string (strOfNums y113))) (fun _ hk => hk.1))); (case aS => exact (below_size (by repeat (first | (with_reducible first | exact HB.out | apply below_alloc | apply pw_below_drewN | apply below_drew1 | refine below_set ?_ GE106.out) | exact HB.out)))); (case aL => have := LMc53.out; omega); intro v127 w58 ho hb hg hat; rw [← c33b0] at ho; rw [← Ny126.out] at ho; have n0_ := Aside0.mk (blk_grown (g := gb106) (o := .cells #[.bool ((rd_T40 l0 x6_1).f0), .string (strOfNums y113), .int .i64 (Go.bits .and .i64 ((rd_T40 l0 x6_1).f2) 15), .int .i64 x107003_9] 40 (0, 0)) (by (with_reducible repeat (first | refine blk_drewN ?_ _ | refine blk_drew ?_ | refine blk_alloc ?_ _)); refine blk_put (cs := #[.bool ((rd_T40 l0 x6_1).f0), .string (strOfNums y110), .int .i64 (Go.bits .and .i64 ((rd_T40 l0 x6_1).f2) 15), .int .i64 x107003_9]) ?_ 1 _ rfl; (with_reducible repeat (first | refine blk_drewN ?_ _ | refine blk_drew ?_ | refine blk_alloc ?_ _)); exact BK106.out) hg (Kd.R_away HO_5.out (fun _ hk => hk))); have n1_ := Aside0.mk (Kd.R_over' (by (with_reducible repeat (first | apply Kd.R_alloc | apply Kd.R_drewN | apply Kd.R_drew)); exact (Kd.R_mono (Kd.R_far (p := ⟨gb106, 1, none⟩) (Kd.R_types HO115.out BK106.out (by decide)) (fun _ hk => hk.2) (.string (strOfNums y113))) (fun _ h_ => h_.1))) (Kd.R_typed (by (with_reducible repeat (first | apply Kd.R_alloc | apply Kd.R_drewN | apply Kd.R_drew)); exact (Kd.R_mono (Kd.R_far (p := ⟨gb106, 1, none⟩) (Kd.R_mono HO_5.out (fun k_ hk => (⟨hk, hk⟩ : _ ∧ k_ ≠ gb106))) (fun _ hk => hk.2) (.string (strOfNums y113))) (fun _ h_ => h_.1)))) (by decide) hg); have n2_ := Aside0.mk (hb); have n3_ := Aside0.mk (ho); clear BK106; clear HO115; clear HB; clear HO_5; have BK106 := n0_; have HO115 := n1_; have HB := n2_; have HO128 := n3_; clear n0_ n1_ n2_ n3_; clear ho hb hg hat))
                                    go_roundg kj23
                                    case measure => have := HK1.out; have := HJ4.out; have := HJ9.out; have := HJ23.out; omega
                                    case rel => exact ⟨(y126), (wrap64 (x6_1 + 1)), (by first | rfl | (simp; done) | (simp [*]; done)), H', ⟨by have := HK1.out; have := HJ4.out; have := HJ9.out; have := HJ23.out; omega⟩, ⟨by (with_reducible repeat (first | apply Kd.R_alloc | apply Kd.R_drewN | apply Kd.R_drew)); exact Kd.R_mono HO128.out (fun _ hk => trivial)⟩, ⟨by repeat (first | (with_reducible first | exact HB.out | apply below_alloc | apply pw_below_drewN | apply below_drew1 | refine below_set ?_ GE106.out) | exact HB.out)⟩⟩
                                  · rw [if_neg c53] at H
                                    exact absurd H (by simp)
                            · replace c32 := Bool.eq_false_iff.mpr c32
                              subst c32
                              have H1 : (if ((rd_T40 l0 x6_1).f0) = true then (if x5_1.length < 3518437208883 then (tarnlaw40_near.l0 kj23 l0 a1 (x5_1 ++ [(⟨((rd_T40 l0 x6_1).f0), (strOfNums y110), (Go.bits .and .i64 ((rd_T40 l0 x6_1).f2) 15), x107003_9⟩ : S40)]) (wrap64 (x6_1 + 1))) else (none)) else (if a1 = true then (if 0 ≤ x6_1 then (if x6_1 < (l0.length : Int) then (if x5_1.length < 3518437208883 then (tarnlaw40_near.l0 kj23 l0 a1 (x5_1 ++ [(⟨((rd_T40 l0 x6_1).f0), strOfNums (([97 + ((((rd_T40 l0 x6_1).f1).size : Int) % 7)] : List Int)), (Go.bits .and .i64 ((rd_T40 l0 x6_1).f2) 15), x107003_9⟩ : S40)]) (wrap64 (x6_1 + 1))) else (none)) else (none)) else (none)) else (if x5_1.length < 3518437208883 then (tarnlaw40_near.l0 kj23 l0 a1 (x5_1 ++ [(⟨((rd_T40 l0 x6_1).f0), (strOfNums y110), (Go.bits .and .i64 ((rd_T40 l0 x6_1).f2) 15), x107003_9⟩ : S40)]) (wrap64 (x6_1 + 1))) else (none)))) = some r := by rw [if_neg (show ¬ (false = true) by decide)] at H; exact H
                              clear H
                              have H := H1
                              clear H1
                              by_cases c59 : ((rd_T40 l0 x6_1).f0) = true
                              · rw [if_pos c59] at H
                                have c59b0 : ((rd_T40 l0 x6_1).f0) = true := c59
                                clear c59
                                by_cases c60 : x5_1.length < 3518437208883
                                · rw [if_pos c60] at H
                                  have LMc60 := Aside0.mk c60
                                  clear c60
                                  obtain ⟨y129, hy129⟩ : ∃ y_ : List (S40), y_ = (x5_1 ++ [(⟨((rd_T40 l0 x6_1).f0), (strOfNums y110), (Go.bits .and .i64 ((rd_T40 l0 x6_1).f2) 15), x107003_9⟩ : S40)]) := ⟨_, rfl⟩
                                  replace H : (tarnlaw40_near.l0 kj23 l0 a1 y129 (wrap64 (x6_1 + 1))) = some r := by first | (rw [hy129]; with_reducible exact H) | (have H2_ := (Option.bind_some _ _).symm.trans H; rw [hy129]; with_reducible exact H2_) | (have H2_ := (Option.bind_some _ _).symm.trans H; with_reducible exact H2_) | with_reducible exact H | (rw [hy129]; exact H) | exact H
                                  have Ny129 := Aside0.mk hy129
                                  clear hy129
                                  have H' := Aside0.mk H
                                  clear H
                                  have hcz61_0 : wc.cell? ⟨gb106, 0, none⟩ = some (.bool ((rd_T40 l0 x6_1).f0)) := (blk_cell BK106.out 0).trans rfl
                                  have hcz61_1 : wc.cell? ⟨gb106, 1, none⟩ = some (.string (strOfNums y110)) := (blk_cell BK106.out 1).trans rfl
                                  have hcz61_2 : wc.cell? ⟨gb106, 2, none⟩ = some (.int .i64 (Go.bits .and .i64 ((rd_T40 l0 x6_1).f2) 15)) := (blk_cell BK106.out 2).trans rfl
                                  have hcz61_3 : wc.cell? ⟨gb106, 3, none⟩ = some (.int .i64 x107003_9) := (blk_cell BK106.out 3).trans rfl
                                  have hfz61_0 := blk_frozen BK106.out 0
                                  have hfz61_1 := blk_frozen BK106.out 1
                                  have hfz61_2 := blk_frozen BK106.out 2
                                  have hfz61_3 := blk_frozen BK106.out 3
                                  go_wp2_with (first | ((with_reducible refine gate_builtin (b := .append) (xs := #[.tmp 92, .tmp 94]) rfl ?_); at_builtin; refine Kd.R_append k40 (w0 := w) w.heap.size rfl (.tmp 92) (.tmp 94) 34 40 (.agg #[(.bool false), (.string ⟨#[]⟩), (.int .i64 0), (.int .i64 0)]) 40 rfl Try.underlying34 info40 rfl (by decide) (by omega) u5 x5_1 (⟨true, (strOfNums y110), (Go.bits .and .i64 ((rd_T40 l0 x6_1).f2) 15), x107003_9⟩ : S40) [.bool true, .string (strOfNums y110), .int .i64 (Go.bits .and .i64 ((rd_T40 l0 x6_1).f2) 15), .int .i64 x107003_9] (fun k_ => k_ ≠ gb106) (fun _ => False) rfl rfl ?aP (fun _ hk => hk.elim) ?aF ?aO ?aB ?aS ?aL ?_; (case aP => exact k40_mkM _ _ _ (⟨true, (strOfNums y110), (Go.bits .and .i64 ((rd_T40 l0 x6_1).f2) 15), x107003_9⟩ : S40)); (case aB => exact (by repeat (first | (with_reducible first | exact HB.out | apply below_alloc | apply pw_below_drewN | apply below_drew1 | refine below_set ?_ GE106.out) | exact HB.out))); (case aF => exact (fun k_ hk => Kd.freshB (g := gb106) (o := .cells #[.bool ((rd_T40 l0 x6_1).f0), .string (strOfNums y110), .int .i64 (Go.bits .and .i64 ((rd_T40 l0 x6_1).f2) 15), .int .i64 x107003_9] 40 (0, 0)) (by (with_reducible repeat (first | refine blk_drewN ?_ _ | refine blk_drew ?_ | refine blk_alloc ?_ _)); exact BK106.out) k_ hk)); (case aO => exact (by (with_reducible repeat (first | apply Kd.R_alloc | apply Kd.R_drewN | apply Kd.R_drew)); exact HO_5.out)); (case aS => exact (below_size (by repeat (first | (with_reducible first | exact HB.out | apply below_alloc | apply pw_below_drewN | apply below_drew1 | refine below_set ?_ GE106.out) | exact HB.out)))); (case aL => have := LMc60.out; omega); intro v130 w62 ho hb hg hat; rw [← c59b0] at ho; rw [← Ny129.out] at ho; have n0_ := Aside0.mk (blk_grown (g := gb106) (o := .cells #[.bool ((rd_T40 l0 x6_1).f0), .string (strOfNums y110), .int .i64 (Go.bits .and .i64 ((rd_T40 l0 x6_1).f2) 15), .int .i64 x107003_9] 40 (0, 0)) (by (with_reducible repeat (first | refine blk_drewN ?_ _ | refine blk_drew ?_ | refine blk_alloc ?_ _)); exact BK106.out) hg (Kd.R_away HO_5.out (fun _ hk => hk))); have n1_ := Aside0.mk (hb); have n2_ := Aside0.mk (ho); clear BK106; clear HB; clear HO_5; have BK106 := n0_; have HB := n1_; have HO131 := n2_; clear n0_ n1_ n2_; clear ho hb hg hat))
                                  go_roundg kj23
                                  case measure => have := HK1.out; have := HJ4.out; have := HJ9.out; have := HJ23.out; omega
                                  case rel => exact ⟨(y129), (wrap64 (x6_1 + 1)), (by first | rfl | (simp; done) | (simp [*]; done)), H', ⟨by have := HK1.out; have := HJ4.out; have := HJ9.out; have := HJ23.out; omega⟩, ⟨by (with_reducible repeat (first | apply Kd.R_alloc | apply Kd.R_drewN | apply Kd.R_drew)); exact Kd.R_mono HO131.out (fun _ hk => trivial)⟩, ⟨by repeat (first | (with_reducible first | exact HB.out | apply below_alloc | apply pw_below_drewN | apply below_drew1 | refine below_set ?_ GE106.out) | exact HB.out)⟩⟩
                                · rw [if_neg c60] at H
                                  exact absurd H (by simp)
                              · rw [if_neg c59] at H
                                have c59b0 : ((rd_T40 l0 x6_1).f0) = false := by simpa using c59
                                clear c59
                                by_cases c63 : a1 = true
                                · subst c63
                                  have H1 : (if 0 ≤ x6_1 then (if x6_1 < (l0.length : Int) then (if x5_1.length < 3518437208883 then (tarnlaw40_near.l0 kj23 l0 true (x5_1 ++ [(⟨((rd_T40 l0 x6_1).f0), strOfNums (([97 + ((((rd_T40 l0 x6_1).f1).size : Int) % 7)] : List Int)), (Go.bits .and .i64 ((rd_T40 l0 x6_1).f2) 15), x107003_9⟩ : S40)]) (wrap64 (x6_1 + 1))) else (none)) else (none)) else (none)) = some r := by rw [if_pos rfl] at H; exact H
                                  clear H
                                  have H := H1
                                  clear H1
                                  by_cases c64 : 0 ≤ x6_1
                                  · rw [if_pos c64] at H
                                    have c64b0 : decide (0 ≤ x6_1) = true := decide_eq_true c64
                                    clear c64
                                    by_cases c65 : x6_1 < (l0.length : Int)
                                    · rw [if_pos c65] at H
                                      have c65b0 : decide (x6_1 < (l0.length : Int)) = true := decide_eq_true c65
                                      clear c65
                                      obtain ⟨y133, hy133⟩ : ∃ y_ : List Int, y_ = (([97 + ((((rd_T40 l0 x6_1).f1).size : Int) % 7)] : List Int)) := ⟨_, rfl⟩
                                      replace H : (if x5_1.length < 3518437208883 then (tarnlaw40_near.l0 kj23 l0 true (x5_1 ++ [(⟨((rd_T40 l0 x6_1).f0), strOfNums y133, (Go.bits .and .i64 ((rd_T40 l0 x6_1).f2) 15), x107003_9⟩ : S40)]) (wrap64 (x6_1 + 1))) else (none)) = some r := by first | (rw [hy133]; with_reducible exact H) | (have H2_ := (Option.bind_some _ _).symm.trans H; rw [hy133]; with_reducible exact H2_) | (have H2_ := (Option.bind_some _ _).symm.trans H; with_reducible exact H2_) | with_reducible exact H | (rw [hy133]; exact H) | exact H
                                      have Ny133 := Aside0.mk hy133
                                      clear hy133
                                      by_cases c66 : x5_1.length < 3518437208883
                                      · rw [if_pos c66] at H
                                        have LMc66 := Aside0.mk c66
                                        clear c66
                                        obtain ⟨y136, hy136⟩ : ∃ y_ : List (S40), y_ = (x5_1 ++ [(⟨((rd_T40 l0 x6_1).f0), strOfNums y133, (Go.bits .and .i64 ((rd_T40 l0 x6_1).f2) 15), x107003_9⟩ : S40)]) := ⟨_, rfl⟩
                                        replace H : (tarnlaw40_near.l0 kj23 l0 true y136 (wrap64 (x6_1 + 1))) = some r := by first | (rw [hy136]; with_reducible exact H) | (have H2_ := (Option.bind_some _ _).symm.trans H; rw [hy136]; with_reducible exact H2_) | (have H2_ := (Option.bind_some _ _).symm.trans H; with_reducible exact H2_) | with_reducible exact H | (rw [hy136]; exact H) | exact H
                                        have Ny136 := Aside0.mk hy136
                                        clear hy136
                                        have H' := Aside0.mk H
                                        clear H
                                        have hcz67_0 : wc.cell? ⟨gb106, 0, none⟩ = some (.bool ((rd_T40 l0 x6_1).f0)) := (blk_cell BK106.out 0).trans rfl
                                        have hcz67_1 : wc.cell? ⟨gb106, 1, none⟩ = some (.string (strOfNums y110)) := (blk_cell BK106.out 1).trans rfl
                                        have hcz67_2 : wc.cell? ⟨gb106, 2, none⟩ = some (.int .i64 (Go.bits .and .i64 ((rd_T40 l0 x6_1).f2) 15)) := (blk_cell BK106.out 2).trans rfl
                                        have hcz67_3 : wc.cell? ⟨gb106, 3, none⟩ = some (.int .i64 x107003_9) := (blk_cell BK106.out 3).trans rfl
                                        have hfz67_0 := blk_frozen BK106.out 0
                                        have hfz67_1 := blk_frozen BK106.out 1
                                        have hfz67_2 := blk_frozen BK106.out 2
                                        have hfz67_3 := blk_frozen BK106.out 3
                                        have p132 : 0 ≤ (x6_1 : Int) := of_decide_eq_true (by first | (with_reducible assumption) | assumption)
                                        have q132 : x6_1 < (l0.length : Int) := of_decide_eq_true (by first | (with_reducible assumption) | assumption)
                                        obtain ⟨ad132, e132, hx132_0, hx132_1, hx132_2, hx132_3⟩ := at_T40 HR0.out x6_1 p132 q132
                                        obtain rfl : ad104 = ad132 := (by injection e132)
                                        replace hx132_0 := (HB.out.cell (World.block_lt_of_cell? w _ hx132_0)).trans hx132_0
                                        replace hx132_1 := (HB.out.cell (World.block_lt_of_cell? w _ hx132_1)).trans hx132_1
                                        replace hx132_2 := (HB.out.cell (World.block_lt_of_cell? w _ hx132_2)).trans hx132_2
                                        replace hx132_3 := (HB.out.cell (World.block_lt_of_cell? w _ hx132_3)).trans hx132_3
                                        replace p132 := eq_true p132
                                        replace q132 := eq_true q132
                                        go_wp2_with (first | ((with_reducible refine gate_dst (N := 89) rfl ?_); refine Kd.R_lit (Kd.int .u8) _ 5 ?hg (N := 89) ?hd (xs := ([97 + ((((rd_T40 l0 x6_1).f1).size : Int) % 7)] : List Int)) (inner := [.int .u8 (97 + ((((rd_T40 l0 x6_1).f1).size : Int) % 7))]) (ok := fun _ => True) (okp := fun _ => True) ?hr ?hp (fun _ hk => hk) trivial (Below.refl _ _) (Nat.le_refl _) (by simp) ?_; (case hd => rfl); (case hg => rfl); (case hr => first | (go_simp; done) | (go_simp; rfl)); (case hp => exact (Reps.one (show Kd.M (Kd.int .u8) _ _ _ (97 + ((((rd_T40 l0 x6_1).f1).size : Int) % 7)) [.int .u8 (97 + ((((rd_T40 l0 x6_1).f1).size : Int) % 7))] from rfl) (Reps.none _ _))); intro v134 w68 ho69 hb hg_ hnew_; clear hg_ hnew_; (first | rw [← Ny133.out] at ho69 | (simp only [Int.reduceToNat] at ho69; rw [← Ny133.out] at ho69)); have n0_ := Aside0.mk (Kd.R_below (by (with_reducible repeat (first | apply Kd.R_alloc | apply Kd.R_drewN | apply Kd.R_drew)); exact HO_5.out) hb); have n1_ := Aside0.mk (Kd.R_lower ho69 (below_size (by repeat (first | (with_reducible first | exact HB.out | apply below_alloc | apply pw_below_drewN | apply below_drew1 | refine below_set ?_ GE106.out) | exact HB.out)))); have n2_ := Aside0.mk (blk_below (g := gb106) (o := .cells #[.bool ((rd_T40 l0 x6_1).f0), .string (strOfNums y110), .int .i64 (Go.bits .and .i64 ((rd_T40 l0 x6_1).f2) 15), .int .i64 x107003_9] 40 (0, 0)) (by (with_reducible repeat (first | refine blk_drewN ?_ _ | refine blk_drew ?_ | refine blk_alloc ?_ _)); exact BK106.out) hb); have n3_ := Aside0.mk (below_step (by repeat (first | (with_reducible first | exact HB.out | apply below_alloc | apply pw_below_drewN | apply below_drew1 | refine below_set ?_ GE106.out) | exact HB.out)) hb); clear HO_5; clear BK106; clear HB; have HO_5 := n0_; have HO135 := n1_; have BK106 := n2_; have HB := n3_; clear n0_ n1_ n2_ n3_; clear hb ho69; have hcv70 := own_string (P := Try.prog) Try.underlying84 Try.underlying5 Try.underlying9 (Kd.own_of_R HO135.out); have hcz71_0 : w68.cell? ⟨gb106, 0, none⟩ = some (.bool ((rd_T40 l0 x6_1).f0)) := (blk_cell BK106.out 0).trans rfl; have hcz71_1 : w68.cell? ⟨gb106, 1, none⟩ = some (.string (strOfNums y110)) := (blk_cell BK106.out 1).trans rfl; have hcz71_2 : w68.cell? ⟨gb106, 2, none⟩ = some (.int .i64 (Go.bits .and .i64 ((rd_T40 l0 x6_1).f2) 15)) := (blk_cell BK106.out 2).trans rfl; have hcz71_3 : w68.cell? ⟨gb106, 3, none⟩ = some (.int .i64 x107003_9) := (blk_cell BK106.out 3).trans rfl; have hfz71_0 := blk_frozen BK106.out 0; have hfz71_1 := blk_frozen BK106.out 1; have hfz71_2 := blk_frozen BK106.out 2; have hfz71_3 := blk_frozen BK106.out 3) | ((with_reducible refine gate_builtin (b := .append) (xs := #[.tmp 92, .tmp 94]) rfl ?_); at_builtin; refine Kd.R_append k40 (w0 := w) w.heap.size rfl (.tmp 92) (.tmp 94) 34 40 (.agg #[(.bool false), (.string ⟨#[]⟩), (.int .i64 0), (.int .i64 0)]) 40 rfl Try.underlying34 info40 rfl (by decide) (by omega) u5 x5_1 (⟨false, strOfNums y133, (Go.bits .and .i64 ((rd_T40 l0 x6_1).f2) 15), x107003_9⟩ : S40) [.bool false, .string (strOfNums y133), .int .i64 (Go.bits .and .i64 ((rd_T40 l0 x6_1).f2) 15), .int .i64 x107003_9] (fun k_ => k_ ≠ gb106) (fun _ => False) rfl (by first | (go_simp; done) | (go_simp; rfl)) ?aP (fun _ hk => hk.elim) ?aF ?aO ?aB ?aS ?aL ?_; (case aP => exact k40_mkM _ _ _ (⟨false, strOfNums y133, (Go.bits .and .i64 ((rd_T40 l0 x6_1).f2) 15), x107003_9⟩ : S40)); (case aB => exact (by repeat (first | (with_reducible first | exact HB.out | apply below_alloc | apply pw_below_drewN | apply below_drew1 | refine below_set ?_ GE106.out) | exact HB.out))); (case aF => exact (fun k_ hk => Kd.freshB (g := gb106) (o := .cells #[.bool ((rd_T40 l0 x6_1).f0), .string (strOfNums y133), .int .i64 (Go.bits .and .i64 ((rd_T40 l0 x6_1).f2) 15), .int .i64 x107003_9] 40 (0, 0)) (by (with_reducible repeat (first | refine blk_drewN ?_ _ | refine blk_drew ?_ | refine blk_alloc ?_ _)); refine blk_put (cs := #[.bool ((rd_T40 l0 x6_1).f0), .string (strOfNums y110), .int .i64 (Go.bits .and .i64 ((rd_T40 l0 x6_1).f2) 15), .int .i64 x107003_9]) ?_ 1 _ rfl; (with_reducible repeat (first | refine blk_drewN ?_ _ | refine blk_drew ?_ | refine blk_alloc ?_ _)); exact BK106.out) k_ hk)); (case aO => exact (by (with_reducible repeat (first | apply Kd.R_alloc | apply Kd.R_drewN | apply Kd.R_drew)); exact Kd.R_mono (Kd.R_far (p := ⟨gb106, 1, none⟩) (Kd.R_mono HO_5.out (fun k_ hk => (⟨hk, hk⟩ : _ ∧ k_ ≠ gb106))) (fun _ hk => hk.2) (.string (strOfNums y133))) (fun _ hk => hk.1))); (case aS => exact (below_size (by repeat (first | (with_reducible first | exact HB.out | apply below_alloc | apply pw_below_drewN | apply below_drew1 | refine below_set ?_ GE106.out) | exact HB.out)))); (case aL => have := LMc66.out; omega); intro v137 w72 ho hb hg hat; rw [← c59b0] at ho; rw [← Ny136.out] at ho; have n0_ := Aside0.mk (blk_grown (g := gb106) (o := .cells #[.bool ((rd_T40 l0 x6_1).f0), .string (strOfNums y133), .int .i64 (Go.bits .and .i64 ((rd_T40 l0 x6_1).f2) 15), .int .i64 x107003_9] 40 (0, 0)) (by (with_reducible repeat (first | refine blk_drewN ?_ _ | refine blk_drew ?_ | refine blk_alloc ?_ _)); refine blk_put (cs := #[.bool ((rd_T40 l0 x6_1).f0), .string (strOfNums y110), .int .i64 (Go.bits .and .i64 ((rd_T40 l0 x6_1).f2) 15), .int .i64 x107003_9]) ?_ 1 _ rfl; (with_reducible repeat (first | refine blk_drewN ?_ _ | refine blk_drew ?_ | refine blk_alloc ?_ _)); exact BK106.out) hg (Kd.R_away HO_5.out (fun _ hk => hk))); have n1_ := Aside0.mk (Kd.R_over' (by (with_reducible repeat (first | apply Kd.R_alloc | apply Kd.R_drewN | apply Kd.R_drew)); exact (Kd.R_mono (Kd.R_far (p := ⟨gb106, 1, none⟩) (Kd.R_types HO135.out BK106.out (by decide)) (fun _ hk => hk.2) (.string (strOfNums y133))) (fun _ h_ => h_.1))) (Kd.R_typed (by (with_reducible repeat (first | apply Kd.R_alloc | apply Kd.R_drewN | apply Kd.R_drew)); exact (Kd.R_mono (Kd.R_far (p := ⟨gb106, 1, none⟩) (Kd.R_mono HO_5.out (fun k_ hk => (⟨hk, hk⟩ : _ ∧ k_ ≠ gb106))) (fun _ hk => hk.2) (.string (strOfNums y133))) (fun _ h_ => h_.1)))) (by decide) hg); have n2_ := Aside0.mk (hb); have n3_ := Aside0.mk (ho); clear BK106; clear HO135; clear HB; clear HO_5; have BK106 := n0_; have HO135 := n1_; have HB := n2_; have HO138 := n3_; clear n0_ n1_ n2_ n3_; clear ho hb hg hat))
                                        go_roundg kj23
                                        case measure => have := HK1.out; have := HJ4.out; have := HJ9.out; have := HJ23.out; omega
                                        case rel => exact ⟨(y136), (wrap64 (x6_1 + 1)), (by first | rfl | (simp; done) | (simp [*]; done)), H', ⟨by have := HK1.out; have := HJ4.out; have := HJ9.out; have := HJ23.out; omega⟩, ⟨by (with_reducible repeat (first | apply Kd.R_alloc | apply Kd.R_drewN | apply Kd.R_drew)); exact Kd.R_mono HO138.out (fun _ hk => trivial)⟩, ⟨by repeat (first | (with_reducible first | exact HB.out | apply below_alloc | apply pw_below_drewN | apply below_drew1 | refine below_set ?_ GE106.out) | exact HB.out)⟩⟩
                                      · rw [if_neg c66] at H
                                        exact absurd H (by simp)
                                    · rw [if_neg c65] at H
                                      exact absurd H (by simp)
                                  · rw [if_neg c64] at H
                                    exact absurd H (by simp)
                                · replace c63 := Bool.eq_false_iff.mpr c63
                                  subst c63
                                  have H1 : (if x5_1.length < 3518437208883 then (tarnlaw40_near.l0 kj23 l0 false (x5_1 ++ [(⟨((rd_T40 l0 x6_1).f0), (strOfNums y110), (Go.bits .and .i64 ((rd_T40 l0 x6_1).f2) 15), x107003_9⟩ : S40)]) (wrap64 (x6_1 + 1))) else (none)) = some r := by rw [if_neg (show ¬ (false = true) by decide)] at H; exact H
                                  clear H
                                  have H := H1
                                  clear H1
                                  by_cases c73 : x5_1.length < 3518437208883
                                  · rw [if_pos c73] at H
                                    have LMc73 := Aside0.mk c73
                                    clear c73
                                    obtain ⟨y139, hy139⟩ : ∃ y_ : List (S40), y_ = (x5_1 ++ [(⟨((rd_T40 l0 x6_1).f0), (strOfNums y110), (Go.bits .and .i64 ((rd_T40 l0 x6_1).f2) 15), x107003_9⟩ : S40)]) := ⟨_, rfl⟩
                                    replace H : (tarnlaw40_near.l0 kj23 l0 false y139 (wrap64 (x6_1 + 1))) = some r := by first | (rw [hy139]; with_reducible exact H) | (have H2_ := (Option.bind_some _ _).symm.trans H; rw [hy139]; with_reducible exact H2_) | (have H2_ := (Option.bind_some _ _).symm.trans H; with_reducible exact H2_) | with_reducible exact H | (rw [hy139]; exact H) | exact H
                                    have Ny139 := Aside0.mk hy139
                                    clear hy139
                                    have H' := Aside0.mk H
                                    clear H
                                    have hcz74_0 : wc.cell? ⟨gb106, 0, none⟩ = some (.bool ((rd_T40 l0 x6_1).f0)) := (blk_cell BK106.out 0).trans rfl
                                    have hcz74_1 : wc.cell? ⟨gb106, 1, none⟩ = some (.string (strOfNums y110)) := (blk_cell BK106.out 1).trans rfl
                                    have hcz74_2 : wc.cell? ⟨gb106, 2, none⟩ = some (.int .i64 (Go.bits .and .i64 ((rd_T40 l0 x6_1).f2) 15)) := (blk_cell BK106.out 2).trans rfl
                                    have hcz74_3 : wc.cell? ⟨gb106, 3, none⟩ = some (.int .i64 x107003_9) := (blk_cell BK106.out 3).trans rfl
                                    have hfz74_0 := blk_frozen BK106.out 0
                                    have hfz74_1 := blk_frozen BK106.out 1
                                    have hfz74_2 := blk_frozen BK106.out 2
                                    have hfz74_3 := blk_frozen BK106.out 3
                                    go_wp2_with (first | ((with_reducible refine gate_builtin (b := .append) (xs := #[.tmp 92, .tmp 94]) rfl ?_); at_builtin; refine Kd.R_append k40 (w0 := w) w.heap.size rfl (.tmp 92) (.tmp 94) 34 40 (.agg #[(.bool false), (.string ⟨#[]⟩), (.int .i64 0), (.int .i64 0)]) 40 rfl Try.underlying34 info40 rfl (by decide) (by omega) u5 x5_1 (⟨false, (strOfNums y110), (Go.bits .and .i64 ((rd_T40 l0 x6_1).f2) 15), x107003_9⟩ : S40) [.bool false, .string (strOfNums y110), .int .i64 (Go.bits .and .i64 ((rd_T40 l0 x6_1).f2) 15), .int .i64 x107003_9] (fun k_ => k_ ≠ gb106) (fun _ => False) rfl rfl ?aP (fun _ hk => hk.elim) ?aF ?aO ?aB ?aS ?aL ?_; (case aP => exact k40_mkM _ _ _ (⟨false, (strOfNums y110), (Go.bits .and .i64 ((rd_T40 l0 x6_1).f2) 15), x107003_9⟩ : S40)); (case aB => exact (by repeat (first | (with_reducible first | exact HB.out | apply below_alloc | apply pw_below_drewN | apply below_drew1 | refine below_set ?_ GE106.out) | exact HB.out))); (case aF => exact (fun k_ hk => Kd.freshB (g := gb106) (o := .cells #[.bool ((rd_T40 l0 x6_1).f0), .string (strOfNums y110), .int .i64 (Go.bits .and .i64 ((rd_T40 l0 x6_1).f2) 15), .int .i64 x107003_9] 40 (0, 0)) (by (with_reducible repeat (first | refine blk_drewN ?_ _ | refine blk_drew ?_ | refine blk_alloc ?_ _)); exact BK106.out) k_ hk)); (case aO => exact (by (with_reducible repeat (first | apply Kd.R_alloc | apply Kd.R_drewN | apply Kd.R_drew)); exact HO_5.out)); (case aS => exact (below_size (by repeat (first | (with_reducible first | exact HB.out | apply below_alloc | apply pw_below_drewN | apply below_drew1 | refine below_set ?_ GE106.out) | exact HB.out)))); (case aL => have := LMc73.out; omega); intro v140 w75 ho hb hg hat; rw [← c59b0] at ho; rw [← Ny139.out] at ho; have n0_ := Aside0.mk (blk_grown (g := gb106) (o := .cells #[.bool ((rd_T40 l0 x6_1).f0), .string (strOfNums y110), .int .i64 (Go.bits .and .i64 ((rd_T40 l0 x6_1).f2) 15), .int .i64 x107003_9] 40 (0, 0)) (by (with_reducible repeat (first | refine blk_drewN ?_ _ | refine blk_drew ?_ | refine blk_alloc ?_ _)); exact BK106.out) hg (Kd.R_away HO_5.out (fun _ hk => hk))); have n1_ := Aside0.mk (hb); have n2_ := Aside0.mk (ho); clear BK106; clear HB; clear HO_5; have BK106 := n0_; have HB := n1_; have HO141 := n2_; clear n0_ n1_ n2_; clear ho hb hg hat))
                                    go_roundg kj23
                                    case measure => have := HK1.out; have := HJ4.out; have := HJ9.out; have := HJ23.out; omega
                                    case rel => exact ⟨(y139), (wrap64 (x6_1 + 1)), (by first | rfl | (simp; done) | (simp [*]; done)), H', ⟨by have := HK1.out; have := HJ4.out; have := HJ9.out; have := HJ23.out; omega⟩, ⟨by (with_reducible repeat (first | apply Kd.R_alloc | apply Kd.R_drewN | apply Kd.R_drew)); exact Kd.R_mono HO141.out (fun _ hk => trivial)⟩, ⟨by repeat (first | (with_reducible first | exact HB.out | apply below_alloc | apply pw_below_drewN | apply below_drew1 | refine below_set ?_ GE106.out) | exact HB.out)⟩⟩
                                  · rw [if_neg c73] at H
                                    exact absurd H (by simp)
                      · rw [if_neg c23] at H
                        exact absurd H (by simp)
                    · rw [if_neg c22] at H
                      exact absurd H (by simp)
              · rw [if_neg c9] at H
                exact absurd H (by simp)
            · rw [if_neg c8] at H
              exact absurd H (by simp)
          · replace c7 := Bool.eq_false_iff.mpr c7
            subst c7
            have H1 : (some x5_1) = some r := by rw [if_neg (show ¬ (false = true) by decide)] at H; exact H
            clear H
            have H := H1
            clear H1
            obtain rfl := Option.some.inj H
            go_wp2
            go_ret
            exact ⟨_, by first | rfl | (simp [errW_none, errW_some] <;> rfl) | (simp [*, errW_none, errW_some] <;> rfl), by (with_reducible repeat (first | apply Kd.R_alloc | apply Kd.R_drewN | apply Kd.R_drew)); exact HO_5.out, by repeat (first | (with_reducible first | exact HB.out | apply below_alloc | apply pw_below_drewN | apply below_drew1) | exact HB.out)⟩

end Go.Proofs.Ythldophikcgkcaa.PSr
