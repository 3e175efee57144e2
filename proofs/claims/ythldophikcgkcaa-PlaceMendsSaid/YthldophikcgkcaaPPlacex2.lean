-- Printed by wip/xprint of this session, over the kit's print: Lean functions for Go functions, and their contracts.
import Derived.Test.YthldophikcgkcaaPPlacex0
import Derived.Test.YthldophikcgkcaaPPlacex1
namespace Go.Proofs.Ythldophikcgkcaa.PPlace
open Go.RowKit Go.Proofs.YthldophikcgkcaaW.PrintWords Go.Proofs.YthldophikcgkcaaW.PrintLast Go.Proofs.YthldophikcgkcaaW.PrintMore Go.Proofs.Ythldophikcgkcaa.X
attribute [local go_sem] max2_int min2_int max_two min_two max_three min_three max_four min_four   -- for this text's walks alone
set_option linter.unusedVariables false
set_option linter.unusedSimpArgs false

/-! ### tarnlaw11_Near: function 9 -/
mutual
def tarnlaw11_Near.j1 : Nat → Int → Int → Int → Int → List Int → List Int → Int → Int → Int → List Int → Option (Int × Int × Int × List Int × List Int)
  | 0, _, _, _, _, _, _, _, _, _, _ => none
  | k + 1, x1, x110000, x110001, x110002, x110003, x110004, x111000, x111001, x111002, x111003 => tarnlaw11_Near.l1 k x1 0 x110000 x110001 x110002 x110003 x110004 x111000 x111001 x111002 x111003 ([] : List Int)
def tarnlaw11_Near.j3 : Nat → Int → Int → Int → Int → List Int → List Int → Int → Int → Int → List Int → List Int → Option (Int × Int × Int × List Int × List Int)
  | 0, _, _, _, _, _, _, _, _, _, _, _ => none
  | k + 1, x1, x110000, x110001, x110002, x110003, x110004, x111000, x111001, x111002, x111003, x111004 => (tarnref11_Lists.f k x111003 x111004).bind fun t119 => (if t119 = true then (tarnlaw11_Near.j4 k x1 false x110000 x110001 x110002 x110003 x110004 x111000 x111001 x111002 x111003 x111004) else (tarnlaw11_Near.j4 k x1 ((Go.bits .and .i64 x1 3) != 0) x110000 x110001 x110002 x110003 x110004 x111000 x111001 x111002 x111003 x111004))
def tarnlaw11_Near.j4 : Nat → Int → Bool → Int → Int → Int → List Int → List Int → Int → Int → Int → List Int → List Int → Option (Int × Int × Int × List Int × List Int)
  | 0, _, _, _, _, _, _, _, _, _, _, _, _ => none
  | k + 1, x1, x73, x110000, x110001, x110002, x110003, x110004, x111000, x111001, x111002, x111003, x111004 => if x73 = true then (tarnlaw11_Near.j5 k x1 x110000 x110001 x110002 x110003 x110004 x111000 x111001 x111002 (([Go.bits .and .i64 (x110001 / 2) 3] : List Int)) (([Go.bits .and .i64 (x110001 / 8) 3, 4] : List Int))) else (tarnlaw11_Near.j5 k x1 x110000 x110001 x110002 x110003 x110004 x111000 x111001 x111002 x111003 x111004)
def tarnlaw11_Near.j5 : Nat → Int → Int → Int → Int → List Int → List Int → Int → Int → Int → List Int → List Int → Option (Int × Int × Int × List Int × List Int)
  | 0, _, _, _, _, _, _, _, _, _, _, _ => none
  | k + 1, x1, x110000, x110001, x110002, x110003, x110004, x111000, x111001, x111002, x111003, x111004 => if (Go.bits .and .i64 x1 15) = 4 then (some (0, 0, 0, ([] : List Int), ([] : List Int))) else (if (Go.bits .and .i64 x1 15) = 8 then (some (x111000, x110001, x111002, x111003, x111004)) else (if (Go.bits .and .i64 x1 15) = 12 then (some (x110000, x111001, x111002, x111003, x111004)) else (some (x111000, x111001, x111002, x111003, x111004))))
def tarnlaw11_Near.l1 : Nat → Int → Int → Int → Int → Int → List Int → List Int → Int → Int → Int → List Int → List Int → Option (Int × Int × Int × List Int × List Int)
  | 0, _, _, _, _, _, _, _, _, _, _, _, _ => none
  | k + 1, x1, x6, x110000, x110001, x110002, x110003, x110004, x111000, x111001, x111002, x111003, x111004 => if x6 < (x110004.length : Int) then (if x6 < 4 then (if 0 ≤ x6 then (if x111004.length < 17592186044416 then (tarnlaw11_Near.l1 k x1 (wrap64 (x6 + 1)) x110000 x110001 x110002 x110003 x110004 x111000 x111001 x111002 x111003 (x111004 ++ [Go.bits .and .i64 (rd x110004 x6) 7])) else (none)) else (none)) else (tarnlaw11_Near.j3 k x1 x110000 x110001 x110002 x110003 x110004 x111000 x111001 x111002 x111003 x111004)) else (tarnlaw11_Near.j3 k x1 x110000 x110001 x110002 x110003 x110004 x111000 x111001 x111002 x111003 x111004)
def tarnlaw11_Near.l0 : Nat → Int → Int → Int → Int → Int → List Int → List Int → Int → Int → Int → List Int → Option (Int × Int × Int × List Int × List Int)
  | 0, _, _, _, _, _, _, _, _, _, _, _ => none
  | k + 1, x1, x5, x110000, x110001, x110002, x110003, x110004, x111000, x111001, x111002, x111003 => if x5 < (x110003.length : Int) then (if x5 < 4 then (if 0 ≤ x5 then (if x111003.length < 17592186044416 then (tarnlaw11_Near.l0 k x1 (wrap64 (x5 + 1)) x110000 x110001 x110002 x110003 x110004 x111000 x111001 x111002 (x111003 ++ [Go.bits .and .i64 (rd x110003 x5) 7])) else (none)) else (none)) else (tarnlaw11_Near.j1 k x1 x110000 x110001 x110002 x110003 x110004 x111000 x111001 x111002 x111003)) else (tarnlaw11_Near.j1 k x1 x110000 x110001 x110002 x110003 x110004 x111000 x111001 x111002 x111003)
end
def tarnlaw11_Near.f (k : Nat) (a0_0 : Int) (a0_1 : Int) (a0_2 : Int) (l0_3 : List Int) (l0_4 : List Int) (a1 : Int) : Option (Int × Int × Int × List Int × List Int) := tarnlaw11_Near.l0 k a1 0 a0_0 a0_1 a0_2 l0_3 l0_4 (Go.bits .and .i64 a0_0 31) (wrap64 (5 + (Go.bits .and .i64 a0_1 1))) (wrap64 ((Go.bits .and .i64 a0_2 31) + 1)) ([] : List Int)
theorem tarnlaw11_Near.mono_l : ∀ k, (∀ y0 y1 y2 y3 y4 y5 y6 y7 y8 y9, LeO (tarnlaw11_Near.j1 k y0 y1 y2 y3 y4 y5 y6 y7 y8 y9) (tarnlaw11_Near.j1 (k + 1) y0 y1 y2 y3 y4 y5 y6 y7 y8 y9)) ∧ (∀ y0 y1 y2 y3 y4 y5 y6 y7 y8 y9 y10, LeO (tarnlaw11_Near.j3 k y0 y1 y2 y3 y4 y5 y6 y7 y8 y9 y10) (tarnlaw11_Near.j3 (k + 1) y0 y1 y2 y3 y4 y5 y6 y7 y8 y9 y10)) ∧ (∀ y0 y1 y2 y3 y4 y5 y6 y7 y8 y9 y10 y11, LeO (tarnlaw11_Near.j4 k y0 y1 y2 y3 y4 y5 y6 y7 y8 y9 y10 y11) (tarnlaw11_Near.j4 (k + 1) y0 y1 y2 y3 y4 y5 y6 y7 y8 y9 y10 y11)) ∧ (∀ y0 y1 y2 y3 y4 y5 y6 y7 y8 y9 y10, LeO (tarnlaw11_Near.j5 k y0 y1 y2 y3 y4 y5 y6 y7 y8 y9 y10) (tarnlaw11_Near.j5 (k + 1) y0 y1 y2 y3 y4 y5 y6 y7 y8 y9 y10)) ∧ (∀ y0 y1 y2 y3 y4 y5 y6 y7 y8 y9 y10 y11, LeO (tarnlaw11_Near.l1 k y0 y1 y2 y3 y4 y5 y6 y7 y8 y9 y10 y11) (tarnlaw11_Near.l1 (k + 1) y0 y1 y2 y3 y4 y5 y6 y7 y8 y9 y10 y11)) ∧ (∀ y0 y1 y2 y3 y4 y5 y6 y7 y8 y9 y10, LeO (tarnlaw11_Near.l0 k y0 y1 y2 y3 y4 y5 y6 y7 y8 y9 y10) (tarnlaw11_Near.l0 (k + 1) y0 y1 y2 y3 y4 y5 y6 y7 y8 y9 y10))
  | 0 => ⟨fun _ _ _ _ _ _ _ _ _ _ r h => by simp [tarnlaw11_Near.j1] at h, fun _ _ _ _ _ _ _ _ _ _ _ r h => by simp [tarnlaw11_Near.j3] at h, fun _ _ _ _ _ _ _ _ _ _ _ _ r h => by simp [tarnlaw11_Near.j4] at h, fun _ _ _ _ _ _ _ _ _ _ _ r h => by simp [tarnlaw11_Near.j5] at h, fun _ _ _ _ _ _ _ _ _ _ _ _ r h => by simp [tarnlaw11_Near.l1] at h, fun _ _ _ _ _ _ _ _ _ _ _ r h => by simp [tarnlaw11_Near.l0] at h⟩
  | k + 1 => by
    obtain ⟨ih0, ih1, ih2, ih3, ih4, ih5⟩ := tarnlaw11_Near.mono_l k
    refine ⟨?_, ?_, ?_, ?_, ?_, ?_⟩
    · intro y0 y1 y2 y3 y4 y5 y6 y7 y8 y9
      unfold tarnlaw11_Near.j1
      repeat' first
      | (with_reducible exact ih0 _ _ _ _ _ _ _ _ _ _)
      | (with_reducible exact ih1 _ _ _ _ _ _ _ _ _ _ _)
      | (with_reducible exact ih2 _ _ _ _ _ _ _ _ _ _ _ _)
      | (with_reducible exact ih3 _ _ _ _ _ _ _ _ _ _ _)
      | (with_reducible exact ih4 _ _ _ _ _ _ _ _ _ _ _ _)
      | (with_reducible exact ih5 _ _ _ _ _ _ _ _ _ _ _)
      | (with_reducible exact tarnref11_Lists.mono _ _ _)
      | (with_reducible exact LeO.refl _)
      | (with_reducible exact LeO.none _)
      | (with_reducible refine LeO.ite ?_ ?_)
      | (with_reducible refine LeO.bind ?_ (fun _ => ?_))
      | exact ih0 _ _ _ _ _ _ _ _ _ _
      | exact ih1 _ _ _ _ _ _ _ _ _ _ _
      | exact ih2 _ _ _ _ _ _ _ _ _ _ _ _
      | exact ih3 _ _ _ _ _ _ _ _ _ _ _
      | exact ih4 _ _ _ _ _ _ _ _ _ _ _ _
      | exact ih5 _ _ _ _ _ _ _ _ _ _ _
      | exact tarnref11_Lists.mono _ _ _
      | exact LeO.none _
      | refine LeO.ite ?_ ?_
      | refine LeO.bind ?_ (fun _ => ?_)
    · intro y0 y1 y2 y3 y4 y5 y6 y7 y8 y9 y10
      unfold tarnlaw11_Near.j3
      repeat' first
      | (with_reducible exact ih0 _ _ _ _ _ _ _ _ _ _)
      | (with_reducible exact ih1 _ _ _ _ _ _ _ _ _ _ _)
      | (with_reducible exact ih2 _ _ _ _ _ _ _ _ _ _ _ _)
      | (with_reducible exact ih3 _ _ _ _ _ _ _ _ _ _ _)
      | (with_reducible exact ih4 _ _ _ _ _ _ _ _ _ _ _ _)
      | (with_reducible exact ih5 _ _ _ _ _ _ _ _ _ _ _)
      | (with_reducible exact tarnref11_Lists.mono _ _ _)
      | (with_reducible exact LeO.refl _)
      | (with_reducible exact LeO.none _)
      | (with_reducible refine LeO.ite ?_ ?_)
      | (with_reducible refine LeO.bind ?_ (fun _ => ?_))
      | exact ih0 _ _ _ _ _ _ _ _ _ _
      | exact ih1 _ _ _ _ _ _ _ _ _ _ _
      | exact ih2 _ _ _ _ _ _ _ _ _ _ _ _
      | exact ih3 _ _ _ _ _ _ _ _ _ _ _
      | exact ih4 _ _ _ _ _ _ _ _ _ _ _ _
      | exact ih5 _ _ _ _ _ _ _ _ _ _ _
      | exact tarnref11_Lists.mono _ _ _
      | exact LeO.none _
      | refine LeO.ite ?_ ?_
      | refine LeO.bind ?_ (fun _ => ?_)
    · intro y0 y1 y2 y3 y4 y5 y6 y7 y8 y9 y10 y11
      unfold tarnlaw11_Near.j4
      repeat' first
      | (with_reducible exact ih0 _ _ _ _ _ _ _ _ _ _)
      | (with_reducible exact ih1 _ _ _ _ _ _ _ _ _ _ _)
      | (with_reducible exact ih2 _ _ _ _ _ _ _ _ _ _ _ _)
      | (with_reducible exact ih3 _ _ _ _ _ _ _ _ _ _ _)
      | (with_reducible exact ih4 _ _ _ _ _ _ _ _ _ _ _ _)
      | (with_reducible exact ih5 _ _ _ _ _ _ _ _ _ _ _)
      | (with_reducible exact tarnref11_Lists.mono _ _ _)
      | (with_reducible exact LeO.refl _)
      | (with_reducible exact LeO.none _)
      | (with_reducible refine LeO.ite ?_ ?_)
      | (with_reducible refine LeO.bind ?_ (fun _ => ?_))
      | exact ih0 _ _ _ _ _ _ _ _ _ _
      | exact ih1 _ _ _ _ _ _ _ _ _ _ _
      | exact ih2 _ _ _ _ _ _ _ _ _ _ _ _
      | exact ih3 _ _ _ _ _ _ _ _ _ _ _
      | exact ih4 _ _ _ _ _ _ _ _ _ _ _ _
      | exact ih5 _ _ _ _ _ _ _ _ _ _ _
      | exact tarnref11_Lists.mono _ _ _
      | exact LeO.none _
      | refine LeO.ite ?_ ?_
      | refine LeO.bind ?_ (fun _ => ?_)
    · intro y0 y1 y2 y3 y4 y5 y6 y7 y8 y9 y10
      unfold tarnlaw11_Near.j5
      repeat' first
      | (with_reducible exact ih0 _ _ _ _ _ _ _ _ _ _)
      | (with_reducible exact ih1 _ _ _ _ _ _ _ _ _ _ _)
      | (with_reducible exact ih2 _ _ _ _ _ _ _ _ _ _ _ _)
      | (with_reducible exact ih3 _ _ _ _ _ _ _ _ _ _ _)
      | (with_reducible exact ih4 _ _ _ _ _ _ _ _ _ _ _ _)
      | (with_reducible exact ih5 _ _ _ _ _ _ _ _ _ _ _)
      | (with_reducible exact tarnref11_Lists.mono _ _ _)
      | (with_reducible exact LeO.refl _)
      | (with_reducible exact LeO.none _)
      | (with_reducible refine LeO.ite ?_ ?_)
      | (with_reducible refine LeO.bind ?_ (fun _ => ?_))
      | exact ih0 _ _ _ _ _ _ _ _ _ _
      | exact ih1 _ _ _ _ _ _ _ _ _ _ _
      | exact ih2 _ _ _ _ _ _ _ _ _ _ _ _
      | exact ih3 _ _ _ _ _ _ _ _ _ _ _
      | exact ih4 _ _ _ _ _ _ _ _ _ _ _ _
      | exact ih5 _ _ _ _ _ _ _ _ _ _ _
      | exact tarnref11_Lists.mono _ _ _
      | exact LeO.none _
      | refine LeO.ite ?_ ?_
      | refine LeO.bind ?_ (fun _ => ?_)
    · intro y0 y1 y2 y3 y4 y5 y6 y7 y8 y9 y10 y11
      unfold tarnlaw11_Near.l1
      repeat' first
      | (with_reducible exact ih0 _ _ _ _ _ _ _ _ _ _)
      | (with_reducible exact ih1 _ _ _ _ _ _ _ _ _ _ _)
      | (with_reducible exact ih2 _ _ _ _ _ _ _ _ _ _ _ _)
      | (with_reducible exact ih3 _ _ _ _ _ _ _ _ _ _ _)
      | (with_reducible exact ih4 _ _ _ _ _ _ _ _ _ _ _ _)
      | (with_reducible exact ih5 _ _ _ _ _ _ _ _ _ _ _)
      | (with_reducible exact tarnref11_Lists.mono _ _ _)
      | (with_reducible exact LeO.refl _)
      | (with_reducible exact LeO.none _)
      | (with_reducible refine LeO.ite ?_ ?_)
      | (with_reducible refine LeO.bind ?_ (fun _ => ?_))
      | exact ih0 _ _ _ _ _ _ _ _ _ _
      | exact ih1 _ _ _ _ _ _ _ _ _ _ _
      | exact ih2 _ _ _ _ _ _ _ _ _ _ _ _
      | exact ih3 _ _ _ _ _ _ _ _ _ _ _
      | exact ih4 _ _ _ _ _ _ _ _ _ _ _ _
      | exact ih5 _ _ _ _ _ _ _ _ _ _ _
      | exact tarnref11_Lists.mono _ _ _
      | exact LeO.none _
      | refine LeO.ite ?_ ?_
      | refine LeO.bind ?_ (fun _ => ?_)
    · intro y0 y1 y2 y3 y4 y5 y6 y7 y8 y9 y10
      unfold tarnlaw11_Near.l0
      repeat' first
      | (with_reducible exact ih0 _ _ _ _ _ _ _ _ _ _)
      | (with_reducible exact ih1 _ _ _ _ _ _ _ _ _ _ _)
      | (with_reducible exact ih2 _ _ _ _ _ _ _ _ _ _ _ _)
      | (with_reducible exact ih3 _ _ _ _ _ _ _ _ _ _ _)
      | (with_reducible exact ih4 _ _ _ _ _ _ _ _ _ _ _ _)
      | (with_reducible exact ih5 _ _ _ _ _ _ _ _ _ _ _)
      | (with_reducible exact tarnref11_Lists.mono _ _ _)
      | (with_reducible exact LeO.refl _)
      | (with_reducible exact LeO.none _)
      | (with_reducible refine LeO.ite ?_ ?_)
      | (with_reducible refine LeO.bind ?_ (fun _ => ?_))
      | exact ih0 _ _ _ _ _ _ _ _ _ _
      | exact ih1 _ _ _ _ _ _ _ _ _ _ _
      | exact ih2 _ _ _ _ _ _ _ _ _ _ _ _
      | exact ih3 _ _ _ _ _ _ _ _ _ _ _
      | exact ih4 _ _ _ _ _ _ _ _ _ _ _ _
      | exact ih5 _ _ _ _ _ _ _ _ _ _ _
      | exact tarnref11_Lists.mono _ _ _
      | exact LeO.none _
      | refine LeO.ite ?_ ?_
      | refine LeO.bind ?_ (fun _ => ?_)
theorem tarnlaw11_Near.mono : ∀ a0 a1 a2 a3 a4 a5 k, LeO (tarnlaw11_Near.f k a0 a1 a2 a3 a4 a5) (tarnlaw11_Near.f (k + 1) a0 a1 a2 a3 a4 a5) := by
  intro a0 a1 a2 a3 a4 a5 k
  obtain ⟨ih0, ih1, ih2, ih3, ih4, ih5⟩ := tarnlaw11_Near.mono_l k
  unfold tarnlaw11_Near.f
  repeat' first
      | (with_reducible exact ih0 _ _ _ _ _ _ _ _ _ _)
      | (with_reducible exact ih1 _ _ _ _ _ _ _ _ _ _ _)
      | (with_reducible exact ih2 _ _ _ _ _ _ _ _ _ _ _ _)
      | (with_reducible exact ih3 _ _ _ _ _ _ _ _ _ _ _)
      | (with_reducible exact ih4 _ _ _ _ _ _ _ _ _ _ _ _)
      | (with_reducible exact ih5 _ _ _ _ _ _ _ _ _ _ _)
      | (with_reducible exact tarnref11_Lists.mono _ _ _)
      | (with_reducible exact LeO.refl _)
      | (with_reducible exact LeO.none _)
      | (with_reducible refine LeO.ite ?_ ?_)
      | (with_reducible refine LeO.bind ?_ (fun _ => ?_))
      | exact ih0 _ _ _ _ _ _ _ _ _ _
      | exact ih1 _ _ _ _ _ _ _ _ _ _ _
      | exact ih2 _ _ _ _ _ _ _ _ _ _ _ _
      | exact ih3 _ _ _ _ _ _ _ _ _ _ _
      | exact ih4 _ _ _ _ _ _ _ _ _ _ _ _
      | exact ih5 _ _ _ _ _ _ _ _ _ _ _
      | exact tarnref11_Lists.mono _ _ _
      | exact LeO.none _
      | refine LeO.ite ?_ ?_
      | refine LeO.bind ?_ (fun _ => ?_)
def tarnlaw11_Near.T5 : Bool × List (List Nat × List Nat) := (true, [([], []), ([0], [0]), ([], []), ([2], [2]), ([], []), ([3, 4], [3, 4]), ([5], [5]), ([6], [6]), ([7], [7]), ([1, 8], [1, 8]), ([0, 1, 2, 3, 4, 5, 6, 7, 8, 9], []), ([10, 9, 9, 0, 1, 2, 3, 4, 5, 6, 7, 8, 9], [9, 10])])
def tarnlaw11_Near.B5 : List Nat := [0, 1, 0, 4, 0, 28, 60, 124, 252, 511, 1023, 2047]
theorem tarnlaw11_Near.tab5 : rtab .any (opsOf Try.f9 5) = tarnlaw11_Near.T5 := by kernel_rfl
theorem tarnlaw11_Near.bits5 : waitsOk tarnlaw11_Near.T5.2 tarnlaw11_Near.B5 = true := by kernel_rfl
def tarnlaw11_Near.T9 : Bool × List (List Nat × List Nat) := (true, [([], []), ([0], [0]), ([], []), ([2], [2]), ([], []), ([3, 4], [3, 4]), ([5], [5]), ([6], [6]), ([7], [7]), ([1, 8], [1, 8]), ([0, 1, 2, 3, 4, 5, 6, 7, 8, 9], []), ([10, 9, 9, 0, 1, 2, 3, 4, 5, 6, 7, 8, 9], [9, 10])])
def tarnlaw11_Near.B9 : List Nat := [0, 1, 0, 4, 0, 28, 60, 124, 252, 511, 1023, 2047]
theorem tarnlaw11_Near.tab9 : rtab .any (opsOf Try.f9 9) = tarnlaw11_Near.T9 := by kernel_rfl
theorem tarnlaw11_Near.bits9 : waitsOk tarnlaw11_Near.T9.2 tarnlaw11_Near.B9 = true := by kernel_rfl
def tarnlaw11_Near.T11 : Bool × List (List Nat × List Nat) := (true, [([], []), ([0], [0]), ([1], [1]), ([2], [2]), ([3], [3]), ([], []), ([5], [5]), ([6], [6]), ([7], [7]), ([8], [8]), ([0, 1, 2, 3, 4], []), ([10, 4, 0, 1, 2, 3, 4], [4, 10]), ([0, 1, 2, 3, 4, 5, 6, 7, 8, 9, 10, 11], []), ([12, 9, 11, 0, 1, 2, 3, 4, 5, 6, 7, 8, 9, 10, 11], [9, 12])])
def tarnlaw11_Near.B11 : List Nat := [0, 1, 3, 7, 15, 0, 32, 96, 224, 480, 31, 1055, 4095, 8191]
theorem tarnlaw11_Near.tab11 : rtab .any (opsOf Try.f9 11) = tarnlaw11_Near.T11 := by kernel_rfl
theorem tarnlaw11_Near.bits11 : waitsOk tarnlaw11_Near.T11.2 tarnlaw11_Near.B11 = true := by kernel_rfl
set_option maxHeartbeats 3000000 in
set_option maxRecDepth 100000 in
theorem tarnlaw11_Near.calls (k : Nat) (a0_0 : Int) (a0_1 : Int) (a0_2 : Int) (A0_3 : Option Addr) (c0_3 : Nat) (l0_3 : List Int) (A0_4 : Option Addr) (c0_4 : Nat) (l0_4 : List Int) (a1 : Int) (r1 : Int) (r2 : Int) (r3 : Int) (r4 : List Int) (r5 : List Int) (w : World) (hr0_3 : Kd.C (Kd.int .i64) w A0_3 l0_3.length l0_3) (hc0_3 : l0_3.length ≤ c0_3) (hr0_4 : Kd.C (Kd.int .i64) w A0_4 l0_4.length l0_4) (hc0_4 : l0_4.length ≤ c0_4) (h : tarnlaw11_Near.f k a0_0 a0_1 a0_2 l0_3 l0_4 a1 = some (r1, r2, r3, r4, r5)) :
    Calls Try.prog 9 #[.agg #[.int .i64 a0_0, .int .i64 a0_1, .int .i64 a0_2, .slice A0_3 l0_3.length c0_3, .slice A0_4 l0_4.length c0_4], .int .i64 a1] w fun e w' => ∃ v3_ v4_ : Value, e = .returned (.agg #[.int .i64 r1, .int .i64 r2, .int .i64 r3, v3_, v4_]) ∧ Kd.R (Kd.int .i64) 3 w' w.heap.size (fun k_ => some k_ ≠ (v4_ : Value).ownBlock) v3_ r4 ∧ Kd.R (Kd.int .i64) 3 w' w.heap.size (fun k_ => some k_ ≠ (v3_ : Value).ownBlock) v4_ r5 ∧ Below w.heap.size w w' := by
  have hu24 := Try.underlying24
  have HR0_3 := Aside0.mk hr0_3
  have HC0_3 := Aside0.mk hc0_3
  clear hr0_3 hc0_3
  have HR0_4 := Aside0.mk hr0_4
  have HC0_4 := Aside0.mk hc0_4
  clear hr0_4 hc0_4
  have HB := Aside0.mk (Below.refl w.heap.size w)
  have H : (tarnlaw11_Near.l0 k a1 0 a0_0 a0_1 a0_2 l0_3 l0_4 (Go.bits .and .i64 a0_0 31) (wrap64 (5 + (Go.bits .and .i64 a0_1 1))) (wrap64 ((Go.bits .and .i64 a0_2 31) + 1)) ([] : List Int)) = some (r1, r2, r3, r4, r5) := h
  clear h
  have HC3 := Aside0.mk H
  clear H
  go_enter Try.func9, Try.ntmps9
  go_upto_block 0 with (first | ((with_reducible refine gate_dst (N := 2) rfl ?_); refine box_event ?hg (N := 2) ?hd (cs := #[.int .i64 a0_0, .int .i64 a0_1, .int .i64 a0_2, .slice A0_3 l0_3.length c0_3, .slice A0_4 l0_4.length c0_4]) (t := 24) ?hr ?_; (case hd => rfl); (case hg => rfl); (case hr => first | (go_simp; done) | (go_simp; rfl)); intro gb109 hg w4 hbox hb; have n0_ := Aside0.mk (below_step (by repeat (first | (with_reducible first | exact HB.out | apply below_alloc | apply pw_below_drewN | apply below_drew1) | exact HB.out)) hb); have n1_ := Aside0.mk (hbox); have n2_ := Aside0.mk ((by rw [hg]; exact (below_size (by repeat (first | (with_reducible first | exact HB.out | apply below_alloc | apply pw_below_drewN | apply below_drew1) | exact HB.out))) : w.heap.size ≤ gb109)); have n3_ := Aside0.mk ((by rw [hg]; exact (below_size (by repeat (first | (with_reducible first | exact HB.out | apply below_alloc | apply pw_below_drewN | apply below_drew1) | exact HB.out))) : w.heap.size ≤ gb109)); clear HB; have HB := n0_; have BK109 := n1_; have GW109 := n2_; have GE109 := n3_; clear n0_ n1_ n2_ n3_; clear hb hbox hg) | ((with_reducible refine gate_dst (N := 4) rfl ?_); refine box_event ?hg (N := 4) ?hd (cs := #[.int .i64 0, .int .i64 0, .int .i64 0, .slice none 0 0, .slice none 0 0]) (t := 24) ?hr ?_; (case hd => rfl); (case hg => rfl); (case hr => first | (go_simp; done) | (go_simp; rfl)); intro gb110 hg w5 hbox hb; have n0_ := Aside0.mk (blk_below (g := gb109) (o := .cells #[.int .i64 a0_0, .int .i64 a0_1, .int .i64 a0_2, .slice A0_3 l0_3.length c0_3, .slice A0_4 l0_4.length c0_4] 24 (0, 0)) (by (with_reducible repeat (first | refine blk_drewN ?_ _ | refine blk_drew ?_ | refine blk_alloc ?_ _)); exact BK109.out) hb); have n1_ := Aside0.mk (below_step (by repeat (first | (with_reducible first | exact HB.out | apply below_alloc | apply pw_below_drewN | apply below_drew1 | refine below_set ?_ GE109.out) | exact HB.out)) hb); have n2_ := Aside0.mk (hbox); have n3_ := Aside0.mk ((by rw [hg]; exact (below_size (by repeat (first | (with_reducible first | exact HB.out | apply below_alloc | apply pw_below_drewN | apply below_drew1 | refine below_set ?_ GE109.out) | exact HB.out))) : w.heap.size ≤ gb110)); have n4_ := Aside0.mk ((by rw [hg]; exact (below_size (by repeat (first | (with_reducible first | exact HB.out | apply below_alloc | apply pw_below_drewN | apply below_drew1 | refine below_set ?_ GE109.out) | exact HB.out))) : w.heap.size ≤ gb110)); have n5_ := Aside0.mk ((by rw [hg]; exact Nat.ne_of_lt (blk_lt (g := gb109) (o := .cells #[.int .i64 a0_0, .int .i64 a0_1, .int .i64 a0_2, .slice A0_3 l0_3.length c0_3, .slice A0_4 l0_4.length c0_4] 24 (0, 0)) (by (with_reducible repeat (first | refine blk_drewN ?_ _ | refine blk_drew ?_ | refine blk_alloc ?_ _)); exact BK109.out)) : gb109 ≠ gb110)); have n6_ := Aside0.mk ((by rw [hg]; exact Nat.ne_of_gt (blk_lt (g := gb109) (o := .cells #[.int .i64 a0_0, .int .i64 a0_1, .int .i64 a0_2, .slice A0_3 l0_3.length c0_3, .slice A0_4 l0_4.length c0_4] 24 (0, 0)) (by (with_reducible repeat (first | refine blk_drewN ?_ _ | refine blk_drew ?_ | refine blk_alloc ?_ _)); exact BK109.out)) : gb110 ≠ gb109)); clear BK109; clear HB; have BK109 := n0_; have HB := n1_; have BK110 := n2_; have GW110 := n3_; have GE110 := n4_; have NB109_110 := n5_; have NB110_109 := n6_; clear n0_ n1_ n2_ n3_ n4_ n5_ n6_; clear hb hbox hg; have hnb6 := NB109_110.out; have hnc6 := NB110_109.out; have hcz7_0 : w5.cell? ⟨gb109, 0, none⟩ = some (.int .i64 a0_0) := (blk_cell BK109.out 0).trans rfl; have hcz7_1 : w5.cell? ⟨gb109, 1, none⟩ = some (.int .i64 a0_1) := (blk_cell BK109.out 1).trans rfl; have hcz7_2 : w5.cell? ⟨gb109, 2, none⟩ = some (.int .i64 a0_2) := (blk_cell BK109.out 2).trans rfl; have hcz7_3 : w5.cell? ⟨gb109, 3, none⟩ = some (.slice A0_3 l0_3.length c0_3) := (blk_cell BK109.out 3).trans rfl; have hcz7_4 : w5.cell? ⟨gb109, 4, none⟩ = some (.slice A0_4 l0_4.length c0_4) := (blk_cell BK109.out 4).trans rfl; have hfz7_0 := blk_frozen BK109.out 0; have hfz7_1 := blk_frozen BK109.out 1; have hfz7_2 := blk_frozen BK109.out 2; have hfz7_3 := blk_frozen BK109.out 3; have hfz7_4 := blk_frozen BK109.out 4; have hcz8_0 : w5.cell? ⟨gb110, 0, none⟩ = some (.int .i64 0) := (blk_cell BK110.out 0).trans rfl; have hcz8_1 : w5.cell? ⟨gb110, 1, none⟩ = some (.int .i64 0) := (blk_cell BK110.out 1).trans rfl; have hcz8_2 : w5.cell? ⟨gb110, 2, none⟩ = some (.int .i64 0) := (blk_cell BK110.out 2).trans rfl; have hcz8_3 : w5.cell? ⟨gb110, 3, none⟩ = some (.slice none 0 0) := (blk_cell BK110.out 3).trans rfl; have hcz8_4 : w5.cell? ⟨gb110, 4, none⟩ = some (.slice none 0 0) := (blk_cell BK110.out 4).trans rfl; have hfz8_0 := blk_frozen BK110.out 0; have hfz8_1 := blk_frozen BK110.out 1; have hfz8_2 := blk_frozen BK110.out 2; have hfz8_3 := blk_frozen BK110.out 3; have hfz8_4 := blk_frozen BK110.out 4))
  (try simp only [Act.put, List.setIfInBounds_toArray, List.set_cons_zero, List.set_cons_succ])
  go_cut [] (fun wc => ∃ (kq : Nat) (x111003_2 : List Int) (u111003 : Value), Aside0 (tarnlaw11_Near.j1 kq a1 a0_0 a0_1 a0_2 l0_3 l0_4 (Go.bits .and .i64 a0_0 31) (wrap64 (5 + (Go.bits .and .i64 a0_1 1))) (wrap64 ((Go.bits .and .i64 a0_2 31) + 1)) x111003_2 = some (r1, r2, r3, r4, r5)) ∧ Aside0 (kq ≤ k) ∧ Aside0 (Kd.R (Kd.int .i64) 3 wc w.heap.size (fun _ => True) u111003 x111003_2) ∧ Aside0 (wc.heap[gb109]? = some (.cells #[.int .i64 a0_0, .int .i64 a0_1, .int .i64 a0_2, (.slice A0_3 l0_3.length c0_3), (.slice A0_4 l0_4.length c0_4)] 24 (0, 0))) ∧ Aside0 (wc.heap[gb110]? = some (.cells #[.int .i64 (Go.bits .and .i64 a0_0 31), .int .i64 (wrap64 (5 + (Go.bits .and .i64 a0_1 1))), .int .i64 (wrap64 ((Go.bits .and .i64 a0_2 31) + 1)), u111003, (.slice none 0 0)] 24 (0, 0))) ∧ Aside0 (Below w.heap.size w wc))
  case first =>
    have H := HC3.out
    clear HC3
    have H' := Aside0.mk H
    clear H
    go_wp2
    go_loopg [5] k (fun kq v5 w' => ∃ (x5_1 : Int) (x111003_1 : List Int) (u111003 : Value), v5 = .int .i64 x5_1 ∧ Aside0 (tarnlaw11_Near.l0 kq a1 x5_1 a0_0 a0_1 a0_2 l0_3 l0_4 (Go.bits .and .i64 a0_0 31) (wrap64 (5 + (Go.bits .and .i64 a0_1 1))) (wrap64 ((Go.bits .and .i64 a0_2 31) + 1)) x111003_1 = some (r1, r2, r3, r4, r5)) ∧ Aside0 (kq ≤ k) ∧ Aside0 (Kd.R (Kd.int .i64) 3 w' w.heap.size (fun _ => True) u111003 x111003_1) ∧ Aside0 (w'.heap[gb109]? = some (.cells #[.int .i64 a0_0, .int .i64 a0_1, .int .i64 a0_2, (.slice A0_3 l0_3.length c0_3), (.slice A0_4 l0_4.length c0_4)] 24 (0, 0))) ∧ Aside0 (w'.heap[gb110]? = some (.cells #[.int .i64 (Go.bits .and .i64 a0_0 31), .int .i64 (wrap64 (5 + (Go.bits .and .i64 a0_1 1))), .int .i64 (wrap64 ((Go.bits .and .i64 a0_2 31) + 1)), u111003, (.slice none 0 0)] 24 (0, 0))) ∧ Aside0 (Below w.heap.size w w'))
    case atStart => exact ⟨(0), (([] : List Int)), (.slice none 0 0), (by first | rfl | (simp; done) | (simp [*]; done)), H', ⟨Nat.le_refl _⟩, ⟨by first | exact Kd.R_nil _ _ _ _ _ | exact Kd.N_nil _ _ _ _ _ | exact Kd.V_nil _ _ _ _ _ | exact Kd.Q_nil _ _ _ _ _ | exact Kd.S_nil _ _ _ _ _⟩, ⟨by (with_reducible repeat (first | refine blk_drewN ?_ _ | refine blk_drew ?_ | refine blk_alloc ?_ _)); refine blk_far ?_ NB109_110.out _; (with_reducible repeat (first | refine blk_drewN ?_ _ | refine blk_drew ?_ | refine blk_alloc ?_ _)); refine blk_far ?_ NB109_110.out _; (with_reducible repeat (first | refine blk_drewN ?_ _ | refine blk_drew ?_ | refine blk_alloc ?_ _)); refine blk_far ?_ NB109_110.out _; (with_reducible repeat (first | refine blk_drewN ?_ _ | refine blk_drew ?_ | refine blk_alloc ?_ _)); refine blk_far ?_ NB109_110.out _; (with_reducible repeat (first | refine blk_drewN ?_ _ | refine blk_drew ?_ | refine blk_alloc ?_ _)); refine blk_far ?_ NB109_110.out _; (with_reducible repeat (first | refine blk_drewN ?_ _ | refine blk_drew ?_ | refine blk_alloc ?_ _)); exact BK109.out⟩, ⟨by (with_reducible repeat (first | refine blk_drewN ?_ _ | refine blk_drew ?_ | refine blk_alloc ?_ _)); refine blk_put (cs := #[.int .i64 (Go.bits .and .i64 a0_0 31), .int .i64 (wrap64 (5 + (Go.bits .and .i64 a0_1 1))), .int .i64 (wrap64 ((Go.bits .and .i64 a0_2 31) + 1)), .slice none 0 0, .slice none 0 0]) ?_ 4 _ rfl; (with_reducible repeat (first | refine blk_drewN ?_ _ | refine blk_drew ?_ | refine blk_alloc ?_ _)); refine blk_put (cs := #[.int .i64 (Go.bits .and .i64 a0_0 31), .int .i64 (wrap64 (5 + (Go.bits .and .i64 a0_1 1))), .int .i64 (wrap64 ((Go.bits .and .i64 a0_2 31) + 1)), .slice none 0 0, .slice none 0 0]) ?_ 3 _ rfl; (with_reducible repeat (first | refine blk_drewN ?_ _ | refine blk_drew ?_ | refine blk_alloc ?_ _)); refine blk_put (cs := #[.int .i64 (Go.bits .and .i64 a0_0 31), .int .i64 (wrap64 (5 + (Go.bits .and .i64 a0_1 1))), .int .i64 0, .slice none 0 0, .slice none 0 0]) ?_ 2 _ rfl; (with_reducible repeat (first | refine blk_drewN ?_ _ | refine blk_drew ?_ | refine blk_alloc ?_ _)); refine blk_put (cs := #[.int .i64 (Go.bits .and .i64 a0_0 31), .int .i64 0, .int .i64 0, .slice none 0 0, .slice none 0 0]) ?_ 1 _ rfl; (with_reducible repeat (first | refine blk_drewN ?_ _ | refine blk_drew ?_ | refine blk_alloc ?_ _)); refine blk_put (cs := #[.int .i64 0, .int .i64 0, .int .i64 0, .slice none 0 0, .slice none 0 0]) ?_ 0 _ rfl; (with_reducible repeat (first | refine blk_drewN ?_ _ | refine blk_drew ?_ | refine blk_alloc ?_ _)); exact BK110.out⟩, ⟨by repeat (first | (with_reducible first | exact HB.out | apply below_alloc | apply pw_below_drewN | apply below_drew1 | refine below_set ?_ GE109.out | refine below_set ?_ GE110.out) | exact HB.out)⟩⟩
    case round =>
      clear H'
      try clear p2
      try clear c6
      try clear p6
      try clear hcz7_0
      try clear hcz7_1
      try clear hcz7_2
      try clear hcz7_3
      try clear hcz7_4
      try clear hcz8_0
      try clear hcz8_1
      try clear hcz8_2
      try clear hcz8_3
      try clear hcz8_4
      try clear hfz7_0
      try clear hfz7_1
      try clear hfz7_2
      try clear hfz7_3
      try clear hfz7_4
      try clear hfz8_0
      try clear hfz8_1
      try clear hfz8_2
      try clear hfz8_3
      try clear hfz8_4
      obtain ⟨x5_1, x111003_1, u111003, rfl, HA, HK1, HO_111003, BK109, BK110, HB⟩ := hrel
      cases gk with
      | zero => exact absurd HA.out (by simp [tarnlaw11_Near.l0])
      | succ k1 =>
        have H := HA.out
        clear HA
        simp only [tarnlaw11_Near.l0] at H
        by_cases c9 : x5_1 < (l0_3.length : Int)
        · rw [if_pos c9] at H
          have c9b0 : decide (x5_1 < (l0_3.length : Int)) = true := decide_eq_true c9
          clear c9
          (first | rw [c9b0] | (simp only [i64_w, i32_w]; rw [c9b0]) | rw [c9b1] | skip)
          by_cases c10 : x5_1 < 4
          · rw [if_pos c10] at H
            have c10b0 : decide (x5_1 < 4) = true := decide_eq_true c10
            clear c10
            by_cases c11 : 0 ≤ x5_1
            · rw [if_pos c11] at H
              have c11b0 : decide (0 ≤ x5_1) = true := decide_eq_true c11
              clear c11
              by_cases c12 : x111003_1.length < 17592186044416
              · rw [if_pos c12] at H
                have LMc12 := Aside0.mk c12
                clear c12
                obtain ⟨y112, hy112⟩ : ∃ y_ : List Int, y_ = (x111003_1 ++ [Go.bits .and .i64 (rd l0_3 x5_1) 7]) := ⟨_, rfl⟩
                replace H : (tarnlaw11_Near.l0 k1 a1 (wrap64 (x5_1 + 1)) a0_0 a0_1 a0_2 l0_3 l0_4 (Go.bits .and .i64 a0_0 31) (wrap64 (5 + (Go.bits .and .i64 a0_1 1))) (wrap64 ((Go.bits .and .i64 a0_2 31) + 1)) y112) = some (r1, r2, r3, r4, r5) := by first | (rw [hy112]; with_reducible exact H) | (have H2_ := (Option.bind_some _ _).symm.trans H; rw [hy112]; with_reducible exact H2_) | (have H2_ := (Option.bind_some _ _).symm.trans H; with_reducible exact H2_) | with_reducible exact H | (rw [hy112]; exact H) | exact H
                have Ny112 := Aside0.mk hy112
                clear hy112
                have H' := Aside0.mk H
                clear H
                have hnb13 := NB109_110.out
                have hnc13 := NB110_109.out
                have hcz14_0 : wr.cell? ⟨gb109, 0, none⟩ = some (.int .i64 a0_0) := (blk_cell BK109.out 0).trans rfl
                have hcz14_1 : wr.cell? ⟨gb109, 1, none⟩ = some (.int .i64 a0_1) := (blk_cell BK109.out 1).trans rfl
                have hcz14_2 : wr.cell? ⟨gb109, 2, none⟩ = some (.int .i64 a0_2) := (blk_cell BK109.out 2).trans rfl
                have hcz14_3 : wr.cell? ⟨gb109, 3, none⟩ = some (.slice A0_3 l0_3.length c0_3) := (blk_cell BK109.out 3).trans rfl
                have hcz14_4 : wr.cell? ⟨gb109, 4, none⟩ = some (.slice A0_4 l0_4.length c0_4) := (blk_cell BK109.out 4).trans rfl
                have hfz14_0 := blk_frozen BK109.out 0
                have hfz14_1 := blk_frozen BK109.out 1
                have hfz14_2 := blk_frozen BK109.out 2
                have hfz14_3 := blk_frozen BK109.out 3
                have hfz14_4 := blk_frozen BK109.out 4
                try go_wp2
                have n0_ := Aside0.mk (Kd.R_drew HO_111003.out)
                have n1_ := Aside0.mk (blk_drew BK109.out)
                have n2_ := Aside0.mk (blk_drew BK110.out)
                have n3_ := Aside0.mk (below_drew1 HB.out)
                clear HO_111003
                clear BK109
                clear BK110
                clear HB
                have HO_111003 := n0_
                have BK109 := n1_
                have BK110 := n2_
                have HB := n3_
                clear n0_ n1_ n2_ n3_
                have p111 : 0 ≤ (x5_1 : Int) := of_decide_eq_true (by first | (with_reducible assumption) | assumption)
                have q111 : x5_1 < (l0_3.length : Int) := of_decide_eq_true (by first | (with_reducible assumption) | assumption)
                obtain ⟨ad111, e111, hx111_0⟩ := Kd.at_int HR0_3.out x5_1 p111 q111
                have hw111_0 := hx111_0
                cases e111
                replace hx111_0 := (HB.out.cell (World.block_lt_of_cell? w _ hx111_0)).trans hx111_0
                replace p111 := eq_true p111
                replace q111 := eq_true q111
                refine start_ (n := 12) (S := fun w' => w'.cell? ⟨gb110, 0, none⟩ = some (.int .i64 (Go.bits .and .i64 a0_0 31)) ∧ w'.cell? ⟨gb110, 1, none⟩ = some (.int .i64 (wrap64 (5 + (Go.bits .and .i64 a0_1 1)))) ∧ w'.cell? ⟨gb110, 2, none⟩ = some (.int .i64 (wrap64 ((Go.bits .and .i64 a0_2 31) + 1))) ∧ w'.cell? ⟨gb110, 3, none⟩ = some (u111003) ∧ w'.cell? ⟨gb110, 4, none⟩ = some (.slice none 0 0) ∧ w'.cell? ⟨gb109, 0, none⟩ = some (.int .i64 a0_0) ∧ w'.cell? ⟨gb109, 1, none⟩ = some (.int .i64 a0_1) ∧ w'.cell? ⟨gb109, 2, none⟩ = some (.int .i64 a0_2) ∧ w'.cell? ⟨gb109, 3, none⟩ = some (.slice (some ad111) l0_3.length c0_3) ∧ w'.cell? ⟨gb109, 4, none⟩ = some (.slice A0_4 l0_4.length c0_4) ∧ w'.cell? (ad111.add (x5_1).toNat) = some (.int .i64 (rd l0_3 x5_1))) (ds := [11]) #[false, false, false, false, false, false, false, false, false, false, false, false] (by kernel_rfl) rfl rfl ⟨(blk_cell BK110.out 0).trans rfl, (blk_cell BK110.out 1).trans rfl, (blk_cell BK110.out 2).trans rfl, (blk_cell BK110.out 3).trans rfl, (blk_cell BK110.out 4).trans rfl, (blk_cell BK109.out 0).trans rfl, (blk_cell BK109.out 1).trans rfl, (blk_cell BK109.out 2).trans rfl, (blk_cell BK109.out 3).trans rfl, (blk_cell BK109.out 4).trans rfl, ((HB.out.cell (World.block_lt_of_cell? w _ hw111_0)).trans hw111_0)⟩ (fun hHeld => ?_); refine with_tabW tarnlaw11_Near.tab5 tarnlaw11_Near.bits5 (fun HT_ HW_ => ?_)
                generalize wr.drew = w15 at HO_111003 BK109 BK110 HB hx111_0 hHeld ⊢
                refine pure_ (i := 0) (N := some 30) (v := ?_) (a' := ?_) #[true, false, false, false, false, false, false, false, false, false, false, false] rfl rfl (any_of HT_.out (by kernel_rfl)) (fun _ _ _ h => h) (Or.inl ⟨by rfl, ?_⟩) ?_ ?_
                rotate_left
                · first | (intro w'; go_simp; with_reducible rfl) | (intro w'; refine Eq.trans (add_step (by rfl) (by rfl) (by rfl) (by assumption) w') ?_; with_reducible rfl) | (intro w'; refine Eq.trans (cut_hi_n Try.underlying9 (by rfl) (by rfl) (by rfl) (by first | assumption | exact of_eq_true (by assumption) | exact of_decide_eq_true (by assumption) | omega) w') ?_; with_reducible rfl) | (intro w'; refine Eq.trans (cut_hi Try.underlying9 (by rfl) (by rfl) (by rfl) (by first | assumption | exact of_eq_true (by assumption) | exact of_decide_eq_true (by assumption) | omega) (by first | assumption | exact of_eq_true (by assumption) | exact of_decide_eq_true (by assumption) | omega) w') ?_; with_reducible rfl) | (intro w'; refine Eq.trans (cut_lo Try.underlying9 (by rfl) (by rfl) (by rfl) (by first | assumption | exact of_eq_true (by assumption) | exact of_decide_eq_true (by assumption) | omega) (by first | assumption | exact of_eq_true (by assumption) | exact of_decide_eq_true (by assumption) | omega) w') ?_; with_reducible rfl) | (intro w'; refine Eq.trans (cut_both Try.underlying9 (by rfl) (by rfl) (by rfl) (by rfl) (by first | assumption | exact of_eq_true (by assumption) | exact of_decide_eq_true (by assumption) | omega) (by first | assumption | exact of_eq_true (by assumption) | exact of_decide_eq_true (by assumption) | omega) (by first | assumption | exact of_eq_true (by assumption) | exact of_decide_eq_true (by assumption) | omega) w') ?_; with_reducible rfl)
                rotate_left
                · simp only [Act.put, List.setIfInBounds_toArray, List.set_cons_zero, List.set_cons_succ, i64_w, i32_w]
                  rfl
                refine pure_ (i := 2) (N := some 32) (v := ?_) (a' := ?_) #[true, false, true, false, false, false, false, false, false, false, false, false] rfl rfl (any_of HT_.out (by kernel_rfl)) (fun _ _ _ h => h) (Or.inl ⟨by rfl, ?_⟩) ?_ ?_
                rotate_left
                · first | (intro w'; go_simp; with_reducible rfl) | (intro w'; refine Eq.trans (add_step (by rfl) (by rfl) (by rfl) (by assumption) w') ?_; with_reducible rfl) | (intro w'; refine Eq.trans (cut_hi_n Try.underlying9 (by rfl) (by rfl) (by rfl) (by first | assumption | exact of_eq_true (by assumption) | exact of_decide_eq_true (by assumption) | omega) w') ?_; with_reducible rfl) | (intro w'; refine Eq.trans (cut_hi Try.underlying9 (by rfl) (by rfl) (by rfl) (by first | assumption | exact of_eq_true (by assumption) | exact of_decide_eq_true (by assumption) | omega) (by first | assumption | exact of_eq_true (by assumption) | exact of_decide_eq_true (by assumption) | omega) w') ?_; with_reducible rfl) | (intro w'; refine Eq.trans (cut_lo Try.underlying9 (by rfl) (by rfl) (by rfl) (by first | assumption | exact of_eq_true (by assumption) | exact of_decide_eq_true (by assumption) | omega) (by first | assumption | exact of_eq_true (by assumption) | exact of_decide_eq_true (by assumption) | omega) w') ?_; with_reducible rfl) | (intro w'; refine Eq.trans (cut_both Try.underlying9 (by rfl) (by rfl) (by rfl) (by rfl) (by first | assumption | exact of_eq_true (by assumption) | exact of_decide_eq_true (by assumption) | omega) (by first | assumption | exact of_eq_true (by assumption) | exact of_decide_eq_true (by assumption) | omega) (by first | assumption | exact of_eq_true (by assumption) | exact of_decide_eq_true (by assumption) | omega) w') ?_; with_reducible rfl)
                rotate_left
                · simp only [Act.put, List.setIfInBounds_toArray, List.set_cons_zero, List.set_cons_succ, i64_w, i32_w]
                  rfl
                refine pure_ (i := 4) (N := some 34) (v := ?_) (a' := ?_) #[true, false, true, false, true, false, false, false, false, false, false, false] rfl rfl (any_of HT_.out (by kernel_rfl)) (fun _ _ _ h => h) (Or.inl ⟨by rfl, ?_⟩) ?_ ?_
                rotate_left
                · first | (intro w'; go_simp; with_reducible rfl) | (intro w'; refine Eq.trans (add_step (by rfl) (by rfl) (by rfl) (by assumption) w') ?_; with_reducible rfl) | (intro w'; refine Eq.trans (cut_hi_n Try.underlying9 (by rfl) (by rfl) (by rfl) (by first | assumption | exact of_eq_true (by assumption) | exact of_decide_eq_true (by assumption) | omega) w') ?_; with_reducible rfl) | (intro w'; refine Eq.trans (cut_hi Try.underlying9 (by rfl) (by rfl) (by rfl) (by first | assumption | exact of_eq_true (by assumption) | exact of_decide_eq_true (by assumption) | omega) (by first | assumption | exact of_eq_true (by assumption) | exact of_decide_eq_true (by assumption) | omega) w') ?_; with_reducible rfl) | (intro w'; refine Eq.trans (cut_lo Try.underlying9 (by rfl) (by rfl) (by rfl) (by first | assumption | exact of_eq_true (by assumption) | exact of_decide_eq_true (by assumption) | omega) (by first | assumption | exact of_eq_true (by assumption) | exact of_decide_eq_true (by assumption) | omega) w') ?_; with_reducible rfl) | (intro w'; refine Eq.trans (cut_both Try.underlying9 (by rfl) (by rfl) (by rfl) (by rfl) (by first | assumption | exact of_eq_true (by assumption) | exact of_decide_eq_true (by assumption) | omega) (by first | assumption | exact of_eq_true (by assumption) | exact of_decide_eq_true (by assumption) | omega) (by first | assumption | exact of_eq_true (by assumption) | exact of_decide_eq_true (by assumption) | omega) w') ?_; with_reducible rfl)
                rotate_left
                · simp only [Act.put, List.setIfInBounds_toArray, List.set_cons_zero, List.set_cons_succ, i64_w, i32_w]
                  rfl
                refine take_ (i := 1) (N := some 31) (v := ?_) (a' := ?_) #[true, true, true, false, true, false, false, false, false, false, false, false] rfl rfl (take_ofW HT_.out HW_.out (by kernel_rfl)) (fun _ _ _ h => h) (Or.inl ⟨by rfl, ?_⟩) hHeld ?_ ?_
                rotate_left
                · rintro w' ⟨s0, s1, s2, s3, s4, s5, s6, s7, s8, s9, s10⟩
                  go_simp
                  with_reducible rfl
                rotate_left
                · simp only [Act.put, List.setIfInBounds_toArray, List.set_cons_zero, List.set_cons_succ, i64_w, i32_w]
                  rfl
                refine take_ (i := 3) (N := some 33) (v := ?_) (a' := ?_) #[true, true, true, true, true, false, false, false, false, false, false, false] rfl rfl (take_ofW HT_.out HW_.out (by kernel_rfl)) (fun _ _ _ h => h) (Or.inl ⟨by rfl, ?_⟩) hHeld ?_ ?_
                rotate_left
                · rintro w' ⟨s0, s1, s2, s3, s4, s5, s6, s7, s8, s9, s10⟩
                  go_simp
                  with_reducible rfl
                rotate_left
                · simp only [Act.put, List.setIfInBounds_toArray, List.set_cons_zero, List.set_cons_succ, i64_w, i32_w]
                  rfl
                refine pure_ (i := 5) (N := some 35) (v := ?_) (a' := ?_) #[true, true, true, true, true, true, false, false, false, false, false, false] rfl rfl (any_of HT_.out (by kernel_rfl)) (fun _ _ _ h => h) (Or.inl ⟨by rfl, ?_⟩) ?_ ?_
                rotate_left
                · first | (intro w'; go_simp; with_reducible rfl) | (intro w'; refine Eq.trans (add_step (by rfl) (by rfl) (by rfl) (by assumption) w') ?_; with_reducible rfl) | (intro w'; refine Eq.trans (cut_hi_n Try.underlying9 (by rfl) (by rfl) (by rfl) (by first | assumption | exact of_eq_true (by assumption) | exact of_decide_eq_true (by assumption) | omega) w') ?_; with_reducible rfl) | (intro w'; refine Eq.trans (cut_hi Try.underlying9 (by rfl) (by rfl) (by rfl) (by first | assumption | exact of_eq_true (by assumption) | exact of_decide_eq_true (by assumption) | omega) (by first | assumption | exact of_eq_true (by assumption) | exact of_decide_eq_true (by assumption) | omega) w') ?_; with_reducible rfl) | (intro w'; refine Eq.trans (cut_lo Try.underlying9 (by rfl) (by rfl) (by rfl) (by first | assumption | exact of_eq_true (by assumption) | exact of_decide_eq_true (by assumption) | omega) (by first | assumption | exact of_eq_true (by assumption) | exact of_decide_eq_true (by assumption) | omega) w') ?_; with_reducible rfl) | (intro w'; refine Eq.trans (cut_both Try.underlying9 (by rfl) (by rfl) (by rfl) (by rfl) (by first | assumption | exact of_eq_true (by assumption) | exact of_decide_eq_true (by assumption) | omega) (by first | assumption | exact of_eq_true (by assumption) | exact of_decide_eq_true (by assumption) | omega) (by first | assumption | exact of_eq_true (by assumption) | exact of_decide_eq_true (by assumption) | omega) w') ?_; with_reducible rfl)
                rotate_left
                · simp only [Act.put, List.setIfInBounds_toArray, List.set_cons_zero, List.set_cons_succ, i64_w, i32_w]
                  rfl
                refine take_ (i := 6) (N := some 36) (v := ?_) (a' := ?_) #[true, true, true, true, true, true, true, false, false, false, false, false] rfl rfl (take_ofW HT_.out HW_.out (by kernel_rfl)) (fun _ _ _ h => h) (Or.inl ⟨by rfl, ?_⟩) hHeld ?_ ?_
                rotate_left
                · rintro w' ⟨s0, s1, s2, s3, s4, s5, s6, s7, s8, s9, s10⟩
                  go_simp
                  with_reducible rfl
                rotate_left
                · simp only [Act.put, List.setIfInBounds_toArray, List.set_cons_zero, List.set_cons_succ, i64_w, i32_w]
                  rfl
                refine pure_ (i := 7) (N := some 37) (v := ?_) (a' := ?_) #[true, true, true, true, true, true, true, true, false, false, false, false] rfl rfl (any_of HT_.out (by kernel_rfl)) (fun _ _ _ h => h) (Or.inl ⟨by rfl, ?_⟩) ?_ ?_
                rotate_left
                · first | (intro w'; go_simp; with_reducible rfl) | (intro w'; refine Eq.trans (add_step (by rfl) (by rfl) (by rfl) (by assumption) w') ?_; with_reducible rfl) | (intro w'; refine Eq.trans (cut_hi_n Try.underlying9 (by rfl) (by rfl) (by rfl) (by first | assumption | exact of_eq_true (by assumption) | exact of_decide_eq_true (by assumption) | omega) w') ?_; with_reducible rfl) | (intro w'; refine Eq.trans (cut_hi Try.underlying9 (by rfl) (by rfl) (by rfl) (by first | assumption | exact of_eq_true (by assumption) | exact of_decide_eq_true (by assumption) | omega) (by first | assumption | exact of_eq_true (by assumption) | exact of_decide_eq_true (by assumption) | omega) w') ?_; with_reducible rfl) | (intro w'; refine Eq.trans (cut_lo Try.underlying9 (by rfl) (by rfl) (by rfl) (by first | assumption | exact of_eq_true (by assumption) | exact of_decide_eq_true (by assumption) | omega) (by first | assumption | exact of_eq_true (by assumption) | exact of_decide_eq_true (by assumption) | omega) w') ?_; with_reducible rfl) | (intro w'; refine Eq.trans (cut_both Try.underlying9 (by rfl) (by rfl) (by rfl) (by rfl) (by first | assumption | exact of_eq_true (by assumption) | exact of_decide_eq_true (by assumption) | omega) (by first | assumption | exact of_eq_true (by assumption) | exact of_decide_eq_true (by assumption) | omega) (by first | assumption | exact of_eq_true (by assumption) | exact of_decide_eq_true (by assumption) | omega) w') ?_; with_reducible rfl)
                rotate_left
                · simp only [Act.put, List.setIfInBounds_toArray, List.set_cons_zero, List.set_cons_succ, i64_w, i32_w]
                  rfl
                refine one_ (i := 8) (N := some 38) #[true, true, true, true, true, true, true, true, true, false, false, false] rfl rfl (one_of HT_.out (by kernel_rfl)) (by decide) (fun K hK => ?_)
                refine value_ (w1 := ?_) (v := ?_) (by rfl) rfl ?_ ?_
                rotate_left 2
                · go_simp
                  constructor
                  · rfl
                  · rfl
                refine hK.out _ _ ⟨(blk_cell (blk_alloc BK110.out _) 0).trans rfl, (blk_cell (blk_alloc BK110.out _) 1).trans rfl, (blk_cell (blk_alloc BK110.out _) 2).trans rfl, (blk_cell (blk_alloc BK110.out _) 3).trans rfl, (blk_cell (blk_alloc BK110.out _) 4).trans rfl, (blk_cell (blk_alloc BK109.out _) 0).trans rfl, (blk_cell (blk_alloc BK109.out _) 1).trans rfl, (blk_cell (blk_alloc BK109.out _) 2).trans rfl, (blk_cell (blk_alloc BK109.out _) 3).trans rfl, (blk_cell (blk_alloc BK109.out _) 4).trans rfl, (World.cell?_alloc_lt _ _ _ (World.block_lt_of_cell? _ _ (((HB.out.cell (World.block_lt_of_cell? w _ hw111_0)).trans hw111_0)))).trans (((HB.out.cell (World.block_lt_of_cell? w _ hw111_0)).trans hw111_0))⟩ (fun hHeld => ?_)
                clear hK K
                refine norm_ (a' := ?_) ?_ ?_
                rotate_left
                · show Act.put _ (some 38) _ = _
                  simp only [Act.put, List.setIfInBounds_toArray, List.set_cons_zero, List.set_cons_succ, i64_w, i32_w]
                  rfl
                refine one_ (i := 9) (N := some 39) #[true, true, true, true, true, true, true, true, true, true, false, false] rfl rfl (one_of HT_.out (by kernel_rfl)) (by decide) (fun K hK => ?_)
                refine Kd.R_append_step (Kd.int .i64) (w0 := w) w.heap.size (by rfl) (.tmp 31) (.tmp 38) 22 3 (.int .i64 0) 8 rfl Try.underlying22 info3 rfl (by decide) (by omega) u111003 x111003_1 (Go.bits .and .i64 (rd l0_3 x5_1) 7) [.int .i64 (Go.bits .and .i64 (rd l0_3 x5_1) 7)] (fun _ => True) (fun _ => False) rfl rfl ?aP (fun _ hk => hk.elim) ?aF ?aO ?aB ?aS ?aL ?_
                (case aP => exact rfl)
                (case aB => exact (by repeat (first | (with_reducible first | exact HB.out | apply below_alloc | apply pw_below_drewN | apply below_drew1 | refine below_set ?_ GE109.out | refine below_set ?_ GE110.out) | exact HB.out)))
                (case aF => exact (fun _ _ => trivial))
                (case aO => exact (by (with_reducible repeat (first | apply Kd.R_alloc | apply Kd.R_drewN | apply Kd.R_drew)); exact HO_111003.out))
                (case aS => exact (below_size (by repeat (first | (with_reducible first | exact HB.out | apply below_alloc | apply pw_below_drewN | apply below_drew1 | refine below_set ?_ GE109.out | refine below_set ?_ GE110.out) | exact HB.out))))
                (case aL => have := LMc12.out; omega)
                intro v113 w16 ho hb hg hat
                rw [← Ny112.out] at ho
                have n0_ := Aside0.mk (blk_grown (g := gb109) (o := .cells #[.int .i64 a0_0, .int .i64 a0_1, .int .i64 a0_2, .slice (some ad111) l0_3.length c0_3, .slice A0_4 l0_4.length c0_4] 24 (0, 0)) (by (with_reducible repeat (first | refine blk_drewN ?_ _ | refine blk_drew ?_ | refine blk_alloc ?_ _)); exact BK109.out) hg (Kd.R_ne HO_111003.out BK109.out (by decide)))
                have n1_ := Aside0.mk (blk_grown (g := gb110) (o := .cells #[.int .i64 (Go.bits .and .i64 a0_0 31), .int .i64 (wrap64 (5 + (Go.bits .and .i64 a0_1 1))), .int .i64 (wrap64 ((Go.bits .and .i64 a0_2 31) + 1)), u111003, .slice none 0 0] 24 (0, 0)) (by (with_reducible repeat (first | refine blk_drewN ?_ _ | refine blk_drew ?_ | refine blk_alloc ?_ _)); exact BK110.out) hg (Kd.R_ne HO_111003.out BK110.out (by decide)))
                have n2_ := Aside0.mk (hb)
                have n3_ := Aside0.mk (ho)
                clear BK109
                clear BK110
                clear HB
                clear HO_111003
                have BK109 := n0_
                have BK110 := n1_
                have HB := n2_
                have HO114 := n3_
                clear n0_ n1_ n2_ n3_
                clear ho hb hg hat
                obtain ⟨Ao17, co17, eo17⟩ := Kd.R_slice HO114.out
                (first | subst eo17 | (injection eo17 with f1_ f2_ f3_; have f4_ := f1_.symm; have f5_ := f3_.symm; clear f1_ f2_ f3_; subst f4_; subst f5_))
                refine hK.out _ _ ⟨(blk_cell BK110.out 0).trans rfl, (blk_cell BK110.out 1).trans rfl, (blk_cell BK110.out 2).trans rfl, (blk_cell BK110.out 3).trans rfl, (blk_cell BK110.out 4).trans rfl, (blk_cell BK109.out 0).trans rfl, (blk_cell BK109.out 1).trans rfl, (blk_cell BK109.out 2).trans rfl, (blk_cell BK109.out 3).trans rfl, (blk_cell BK109.out 4).trans rfl, ((HB.out.cell (World.block_lt_of_cell? w _ hw111_0)).trans hw111_0)⟩ (fun hHeld => ?_)
                clear hK K
                refine norm_ (a' := ?_) ?_ ?_
                rotate_left
                · show Act.put _ (some 39) _ = _
                  simp only [Act.put, List.setIfInBounds_toArray, List.set_cons_zero, List.set_cons_succ, i64_w, i32_w]
                  rfl
                refine pure_ (i := 10) (N := some 40) (v := ?_) (a' := ?_) #[true, true, true, true, true, true, true, true, true, true, true, false] rfl rfl (any_of HT_.out (by kernel_rfl)) (fun _ _ _ h => h) (Or.inl ⟨by rfl, ?_⟩) ?_ ?_
                rotate_left
                · first | (intro w'; go_simp; with_reducible rfl) | (intro w'; refine Eq.trans (add_step (by rfl) (by rfl) (by rfl) (by assumption) w') ?_; with_reducible rfl) | (intro w'; refine Eq.trans (cut_hi_n Try.underlying9 (by rfl) (by rfl) (by rfl) (by first | assumption | exact of_eq_true (by assumption) | exact of_decide_eq_true (by assumption) | omega) w') ?_; with_reducible rfl) | (intro w'; refine Eq.trans (cut_hi Try.underlying9 (by rfl) (by rfl) (by rfl) (by first | assumption | exact of_eq_true (by assumption) | exact of_decide_eq_true (by assumption) | omega) (by first | assumption | exact of_eq_true (by assumption) | exact of_decide_eq_true (by assumption) | omega) w') ?_; with_reducible rfl) | (intro w'; refine Eq.trans (cut_lo Try.underlying9 (by rfl) (by rfl) (by rfl) (by first | assumption | exact of_eq_true (by assumption) | exact of_decide_eq_true (by assumption) | omega) (by first | assumption | exact of_eq_true (by assumption) | exact of_decide_eq_true (by assumption) | omega) w') ?_; with_reducible rfl) | (intro w'; refine Eq.trans (cut_both Try.underlying9 (by rfl) (by rfl) (by rfl) (by rfl) (by first | assumption | exact of_eq_true (by assumption) | exact of_decide_eq_true (by assumption) | omega) (by first | assumption | exact of_eq_true (by assumption) | exact of_decide_eq_true (by assumption) | omega) (by first | assumption | exact of_eq_true (by assumption) | exact of_decide_eq_true (by assumption) | omega) w') ?_; with_reducible rfl)
                rotate_left
                · simp only [Act.put, List.setIfInBounds_toArray, List.set_cons_zero, List.set_cons_succ, i64_w, i32_w]
                  rfl
                refine last_ (i := 11) (N := none) #[true, true, true, true, true, true, true, true, true, true, true, true] rfl rfl (one_of HT_.out (by kernel_rfl)) (by decide) (fun K hK => ?_)
                have hs18 : w16.cell? ⟨gb110, 3, none⟩ = some (u111003) := (blk_cell BK110.out 3).trans rfl
                have hfs18 := blk_frozen BK110.out 3
                have hns18_0 := NB109_110.out
                have hms18_0 := NB110_109.out
                refine skip_ (w1 := ?_) (by rfl) rfl ?_ ?_
                rotate_left
                · go_simp
                  rfl
                refine hK.out _ _ ?_
                clear hK K
                refine done_ (done_of HT_.out (by kernel_rfl)) ?_
                try go_wp2
                go_roundg k1
                case measure => have := HK1.out; omega
                case rel => exact ⟨(wrap64 (x5_1 + 1)), (y112), (.slice Ao17 y112.length co17), (by first | rfl | (simp; done) | (simp [*]; done)), H', ⟨by have := HK1.out; omega⟩, ⟨by (with_reducible repeat (first | apply Kd.R_alloc | apply Kd.R_drewN | apply Kd.R_drew)); exact Kd.R_mono (Kd.R_far (p := ⟨gb110, 3, none⟩) (Kd.R_types HO114.out BK110.out (by decide)) (fun _ hk => hk.2) (.slice Ao17 y112.length co17)) (fun _ hk => trivial)⟩, ⟨by (with_reducible repeat (first | refine blk_drewN ?_ _ | refine blk_drew ?_ | refine blk_alloc ?_ _)); refine blk_far ?_ NB109_110.out _; (with_reducible repeat (first | refine blk_drewN ?_ _ | refine blk_drew ?_ | refine blk_alloc ?_ _)); exact BK109.out⟩, ⟨by (with_reducible repeat (first | refine blk_drewN ?_ _ | refine blk_drew ?_ | refine blk_alloc ?_ _)); refine blk_put (cs := #[.int .i64 (Go.bits .and .i64 a0_0 31), .int .i64 (wrap64 (5 + (Go.bits .and .i64 a0_1 1))), .int .i64 (wrap64 ((Go.bits .and .i64 a0_2 31) + 1)), u111003, .slice none 0 0]) ?_ 3 _ rfl; (with_reducible repeat (first | refine blk_drewN ?_ _ | refine blk_drew ?_ | refine blk_alloc ?_ _)); exact BK110.out⟩, ⟨by repeat (first | (with_reducible first | exact HB.out | apply below_alloc | apply pw_below_drewN | apply below_drew1 | refine below_set ?_ GE109.out | refine below_set ?_ GE110.out) | exact HB.out)⟩⟩
              · rw [if_neg c12] at H
                exact absurd H (by simp)
            · rw [if_neg c11] at H
              exact absurd H (by simp)
          · rw [if_neg c10] at H
            have c10b0 : decide (x5_1 < 4) = false := decide_eq_false c10
            clear c10
            have H' := Aside0.mk H
            clear H
            have hnb19 := NB109_110.out
            have hnc19 := NB110_109.out
            have hcz20_0 : wr.cell? ⟨gb109, 0, none⟩ = some (.int .i64 a0_0) := (blk_cell BK109.out 0).trans rfl
            have hcz20_1 : wr.cell? ⟨gb109, 1, none⟩ = some (.int .i64 a0_1) := (blk_cell BK109.out 1).trans rfl
            have hcz20_2 : wr.cell? ⟨gb109, 2, none⟩ = some (.int .i64 a0_2) := (blk_cell BK109.out 2).trans rfl
            have hcz20_3 : wr.cell? ⟨gb109, 3, none⟩ = some (.slice A0_3 l0_3.length c0_3) := (blk_cell BK109.out 3).trans rfl
            have hcz20_4 : wr.cell? ⟨gb109, 4, none⟩ = some (.slice A0_4 l0_4.length c0_4) := (blk_cell BK109.out 4).trans rfl
            have hfz20_0 := blk_frozen BK109.out 0
            have hfz20_1 := blk_frozen BK109.out 1
            have hfz20_2 := blk_frozen BK109.out 2
            have hfz20_3 := blk_frozen BK109.out 3
            have hfz20_4 := blk_frozen BK109.out 4
            go_wp2
            go_meet
            case rel => exact ⟨_, (x111003_1), (u111003), H', ⟨by have := HK1.out; first | omega | exact Nat.le_refl _⟩, ⟨by (with_reducible repeat (first | apply Kd.R_alloc | apply Kd.R_drewN | apply Kd.R_drew)); exact HO_111003.out⟩, ⟨by (with_reducible repeat (first | refine blk_drewN ?_ _ | refine blk_drew ?_ | refine blk_alloc ?_ _)); exact BK109.out⟩, ⟨by (with_reducible repeat (first | refine blk_drewN ?_ _ | refine blk_drew ?_ | refine blk_alloc ?_ _)); exact BK110.out⟩, ⟨by repeat (first | (with_reducible first | exact HB.out | apply below_alloc | apply pw_below_drewN | apply below_drew1 | refine below_set ?_ GE109.out | refine below_set ?_ GE110.out) | exact HB.out)⟩⟩
        · rw [if_neg c9] at H
          have c9b0 : decide (x5_1 < (l0_3.length : Int)) = false := decide_eq_false c9
          clear c9
          (first | rw [c9b0] | (simp only [i64_w, i32_w]; rw [c9b0]) | rw [c9b1] | skip)
          have H' := Aside0.mk H
          clear H
          have hnb21 := NB109_110.out
          have hnc21 := NB110_109.out
          have hcz22_0 : wr.cell? ⟨gb109, 0, none⟩ = some (.int .i64 a0_0) := (blk_cell BK109.out 0).trans rfl
          have hcz22_1 : wr.cell? ⟨gb109, 1, none⟩ = some (.int .i64 a0_1) := (blk_cell BK109.out 1).trans rfl
          have hcz22_2 : wr.cell? ⟨gb109, 2, none⟩ = some (.int .i64 a0_2) := (blk_cell BK109.out 2).trans rfl
          have hcz22_3 : wr.cell? ⟨gb109, 3, none⟩ = some (.slice A0_3 l0_3.length c0_3) := (blk_cell BK109.out 3).trans rfl
          have hcz22_4 : wr.cell? ⟨gb109, 4, none⟩ = some (.slice A0_4 l0_4.length c0_4) := (blk_cell BK109.out 4).trans rfl
          have hfz22_0 := blk_frozen BK109.out 0
          have hfz22_1 := blk_frozen BK109.out 1
          have hfz22_2 := blk_frozen BK109.out 2
          have hfz22_3 := blk_frozen BK109.out 3
          have hfz22_4 := blk_frozen BK109.out 4
          go_wp2
          go_meet
          case rel => exact ⟨_, (x111003_1), (u111003), H', ⟨by have := HK1.out; first | omega | exact Nat.le_refl _⟩, ⟨by (with_reducible repeat (first | apply Kd.R_alloc | apply Kd.R_drewN | apply Kd.R_drew)); exact HO_111003.out⟩, ⟨by (with_reducible repeat (first | refine blk_drewN ?_ _ | refine blk_drew ?_ | refine blk_alloc ?_ _)); exact BK109.out⟩, ⟨by (with_reducible repeat (first | refine blk_drewN ?_ _ | refine blk_drew ?_ | refine blk_alloc ?_ _)); exact BK110.out⟩, ⟨by repeat (first | (with_reducible first | exact HB.out | apply below_alloc | apply pw_below_drewN | apply below_drew1 | refine below_set ?_ GE109.out | refine below_set ?_ GE110.out) | exact HB.out)⟩⟩
  case rest =>
    clear HC3
    try clear c1
    try clear p1
    try clear q1
    try clear hx1
    try clear c2
    try clear p2
    try clear c6
    try clear p6
    try clear c9
    try clear c9b0
    try clear c9b1
    try clear c10
    try clear c10b0
    try clear c11
    try clear c11b0
    try clear p11
    try clear q11
    try clear hx11
    try clear c12
    try clear c13
    try clear c19
    try clear c21
    try clear hcz14_0
    try clear hcz14_1
    try clear hcz14_2
    try clear hcz14_3
    try clear hcz14_4
    try clear hcz20_0
    try clear hcz20_1
    try clear hcz20_2
    try clear hcz20_3
    try clear hcz20_4
    try clear hcz22_0
    try clear hcz22_1
    try clear hcz22_2
    try clear hcz22_3
    try clear hcz22_4
    try clear hcz7_0
    try clear hcz7_1
    try clear hcz7_2
    try clear hcz7_3
    try clear hcz7_4
    try clear hcz8_0
    try clear hcz8_1
    try clear hcz8_2
    try clear hcz8_3
    try clear hcz8_4
    try clear hfz14_0
    try clear hfz14_1
    try clear hfz14_2
    try clear hfz14_3
    try clear hfz14_4
    try clear hfz20_0
    try clear hfz20_1
    try clear hfz20_2
    try clear hfz20_3
    try clear hfz20_4
    try clear hfz22_0
    try clear hfz22_1
    try clear hfz22_2
    try clear hfz22_3
    try clear hfz22_4
    try clear hfz7_0
    try clear hfz7_1
    try clear hfz7_2
    try clear hfz7_3
    try clear hfz7_4
    try clear hfz8_0
    try clear hfz8_1
    try clear hfz8_2
    try clear hfz8_3
    try clear hfz8_4
    try clear hx111_0
    try clear p111
    try clear p2
    try clear p6
    try clear q111
    obtain ⟨kq, x111003_2, u111003, HA, HJ2, HO_111003, BK109, BK110, HB⟩ := hcut
    cases kq with
    | zero => exact absurd HA.out (by simp [tarnlaw11_Near.j1])
    | succ kj2 =>
      have H := HA.out
      clear HA
      simp only [tarnlaw11_Near.j1] at H
      have HC23 := Aside0.mk H
      clear H
      go_upto_block 2 with (fail)
      go_cut [] (fun wc => ∃ (kq : Nat) (x111004_22 : List Int) (u111004 : Value), Aside0 (tarnlaw11_Near.j3 kq a1 a0_0 a0_1 a0_2 l0_3 l0_4 (Go.bits .and .i64 a0_0 31) (wrap64 (5 + (Go.bits .and .i64 a0_1 1))) (wrap64 ((Go.bits .and .i64 a0_2 31) + 1)) x111003_2 x111004_22 = some (r1, r2, r3, r4, r5)) ∧ Aside0 (kq ≤ kj2) ∧ Aside0 (Kd.R (Kd.int .i64) 3 wc w.heap.size (fun k_ => some k_ ≠ (u111004 : Value).ownBlock) u111003 x111003_2) ∧ Aside0 (Kd.R (Kd.int .i64) 3 wc w.heap.size (fun k_ => some k_ ≠ (u111003 : Value).ownBlock) u111004 x111004_22) ∧ Aside0 (wc.heap[gb109]? = some (.cells #[.int .i64 a0_0, .int .i64 a0_1, .int .i64 a0_2, (.slice A0_3 l0_3.length c0_3), (.slice A0_4 l0_4.length c0_4)] 24 (0, 0))) ∧ Aside0 (wc.heap[gb110]? = some (.cells #[.int .i64 (Go.bits .and .i64 a0_0 31), .int .i64 (wrap64 (5 + (Go.bits .and .i64 a0_1 1))), .int .i64 (wrap64 ((Go.bits .and .i64 a0_2 31) + 1)), u111003, u111004] 24 (0, 0))) ∧ Aside0 (Below w.heap.size w wc))
      case first =>
        have H := HC23.out
        clear HC23
        have H' := Aside0.mk H
        clear H
        go_wp2
        go_loopg [6] kj2 (fun kq v6 w' => ∃ (x6_2 : Int) (x111004_2 : List Int) (u111004 : Value), v6 = .int .i64 x6_2 ∧ Aside0 (tarnlaw11_Near.l1 kq a1 x6_2 a0_0 a0_1 a0_2 l0_3 l0_4 (Go.bits .and .i64 a0_0 31) (wrap64 (5 + (Go.bits .and .i64 a0_1 1))) (wrap64 ((Go.bits .and .i64 a0_2 31) + 1)) x111003_2 x111004_2 = some (r1, r2, r3, r4, r5)) ∧ Aside0 (kq ≤ kj2) ∧ Aside0 (Kd.R (Kd.int .i64) 3 w' w.heap.size (fun k_ => some k_ ≠ (u111004 : Value).ownBlock) u111003 x111003_2) ∧ Aside0 (Kd.R (Kd.int .i64) 3 w' w.heap.size (fun k_ => some k_ ≠ (u111003 : Value).ownBlock) u111004 x111004_2) ∧ Aside0 (w'.heap[gb109]? = some (.cells #[.int .i64 a0_0, .int .i64 a0_1, .int .i64 a0_2, (.slice A0_3 l0_3.length c0_3), (.slice A0_4 l0_4.length c0_4)] 24 (0, 0))) ∧ Aside0 (w'.heap[gb110]? = some (.cells #[.int .i64 (Go.bits .and .i64 a0_0 31), .int .i64 (wrap64 (5 + (Go.bits .and .i64 a0_1 1))), .int .i64 (wrap64 ((Go.bits .and .i64 a0_2 31) + 1)), u111003, u111004] 24 (0, 0))) ∧ Aside0 (Below w.heap.size w w'))
        case atStart => exact ⟨(0), (([] : List Int)), (.slice none 0 0), (by first | rfl | (simp; done) | (simp [*]; done)), H', ⟨Nat.le_refl _⟩, ⟨by (with_reducible repeat (first | apply Kd.R_alloc | apply Kd.R_drewN | apply Kd.R_drew)); exact Kd.R_mono HO_111003.out (fun _ hk => (by simp [Value.ownBlock]))⟩, ⟨by first | exact Kd.R_nil _ _ _ _ _ | exact Kd.N_nil _ _ _ _ _ | exact Kd.V_nil _ _ _ _ _ | exact Kd.Q_nil _ _ _ _ _ | exact Kd.S_nil _ _ _ _ _⟩, ⟨by (with_reducible repeat (first | refine blk_drewN ?_ _ | refine blk_drew ?_ | refine blk_alloc ?_ _)); exact BK109.out⟩, ⟨by (with_reducible repeat (first | refine blk_drewN ?_ _ | refine blk_drew ?_ | refine blk_alloc ?_ _)); exact BK110.out⟩, ⟨by repeat (first | (with_reducible first | exact HB.out | apply below_alloc | apply pw_below_drewN | apply below_drew1 | refine below_set ?_ GE109.out | refine below_set ?_ GE110.out) | exact HB.out)⟩⟩
        case round =>
          clear H'
          try clear c1
          try clear p1
          try clear q1
          try clear hx1
          try clear c2
          try clear p2
          try clear c6
          try clear p6
          try clear c9
          try clear c9b0
          try clear c9b1
          try clear c10
          try clear c10b0
          try clear c11
          try clear c11b0
          try clear p11
          try clear q11
          try clear hx11
          try clear c12
          try clear c13
          try clear c19
          try clear c21
          try clear hcz14_0
          try clear hcz14_1
          try clear hcz14_2
          try clear hcz14_3
          try clear hcz14_4
          try clear hcz20_0
          try clear hcz20_1
          try clear hcz20_2
          try clear hcz20_3
          try clear hcz20_4
          try clear hcz22_0
          try clear hcz22_1
          try clear hcz22_2
          try clear hcz22_3
          try clear hcz22_4
          try clear hcz7_0
          try clear hcz7_1
          try clear hcz7_2
          try clear hcz7_3
          try clear hcz7_4
          try clear hcz8_0
          try clear hcz8_1
          try clear hcz8_2
          try clear hcz8_3
          try clear hcz8_4
          try clear hfz14_0
          try clear hfz14_1
          try clear hfz14_2
          try clear hfz14_3
          try clear hfz14_4
          try clear hfz20_0
          try clear hfz20_1
          try clear hfz20_2
          try clear hfz20_3
          try clear hfz20_4
          try clear hfz22_0
          try clear hfz22_1
          try clear hfz22_2
          try clear hfz22_3
          try clear hfz22_4
          try clear hfz7_0
          try clear hfz7_1
          try clear hfz7_2
          try clear hfz7_3
          try clear hfz7_4
          try clear hfz8_0
          try clear hfz8_1
          try clear hfz8_2
          try clear hfz8_3
          try clear hfz8_4
          try clear hx111_0
          try clear p1
          try clear p11
          try clear p111
          try clear p2
          try clear p6
          try clear q1
          try clear q11
          try clear q111
          obtain ⟨x6_2, x111004_2, u111004, rfl, HA, HK2, HO_111003, HO_111004, BK109, BK110, HB⟩ := hrel
          cases gk with
          | zero => exact absurd HA.out (by simp [tarnlaw11_Near.l1])
          | succ k2 =>
            have H := HA.out
            clear HA
            simp only [tarnlaw11_Near.l1] at H
            by_cases c24 : x6_2 < (l0_4.length : Int)
            · rw [if_pos c24] at H
              have c24b0 : decide (x6_2 < (l0_4.length : Int)) = true := decide_eq_true c24
              clear c24
              (first | rw [c24b0] | (simp only [i64_w, i32_w]; rw [c24b0]) | rw [c24b1] | skip)
              by_cases c25 : x6_2 < 4
              · rw [if_pos c25] at H
                have c25b0 : decide (x6_2 < 4) = true := decide_eq_true c25
                clear c25
                by_cases c26 : 0 ≤ x6_2
                · rw [if_pos c26] at H
                  have c26b0 : decide (0 ≤ x6_2) = true := decide_eq_true c26
                  clear c26
                  by_cases c27 : x111004_2.length < 17592186044416
                  · rw [if_pos c27] at H
                    have LMc27 := Aside0.mk c27
                    clear c27
                    obtain ⟨y116, hy116⟩ : ∃ y_ : List Int, y_ = (x111004_2 ++ [Go.bits .and .i64 (rd l0_4 x6_2) 7]) := ⟨_, rfl⟩
                    replace H : (tarnlaw11_Near.l1 k2 a1 (wrap64 (x6_2 + 1)) a0_0 a0_1 a0_2 l0_3 l0_4 (Go.bits .and .i64 a0_0 31) (wrap64 (5 + (Go.bits .and .i64 a0_1 1))) (wrap64 ((Go.bits .and .i64 a0_2 31) + 1)) x111003_2 y116) = some (r1, r2, r3, r4, r5) := by first | (rw [hy116]; with_reducible exact H) | (have H2_ := (Option.bind_some _ _).symm.trans H; rw [hy116]; with_reducible exact H2_) | (have H2_ := (Option.bind_some _ _).symm.trans H; with_reducible exact H2_) | with_reducible exact H | (rw [hy116]; exact H) | exact H
                    have Ny116 := Aside0.mk hy116
                    clear hy116
                    have H' := Aside0.mk H
                    clear H
                    have hnb28 := NB109_110.out
                    have hnc28 := NB110_109.out
                    have hcz29_0 : wr.cell? ⟨gb109, 0, none⟩ = some (.int .i64 a0_0) := (blk_cell BK109.out 0).trans rfl
                    have hcz29_1 : wr.cell? ⟨gb109, 1, none⟩ = some (.int .i64 a0_1) := (blk_cell BK109.out 1).trans rfl
                    have hcz29_2 : wr.cell? ⟨gb109, 2, none⟩ = some (.int .i64 a0_2) := (blk_cell BK109.out 2).trans rfl
                    have hcz29_3 : wr.cell? ⟨gb109, 3, none⟩ = some (.slice A0_3 l0_3.length c0_3) := (blk_cell BK109.out 3).trans rfl
                    have hcz29_4 : wr.cell? ⟨gb109, 4, none⟩ = some (.slice A0_4 l0_4.length c0_4) := (blk_cell BK109.out 4).trans rfl
                    have hfz29_0 := blk_frozen BK109.out 0
                    have hfz29_1 := blk_frozen BK109.out 1
                    have hfz29_2 := blk_frozen BK109.out 2
                    have hfz29_3 := blk_frozen BK109.out 3
                    have hfz29_4 := blk_frozen BK109.out 4
                    try go_wp2
                    have n0_ := Aside0.mk (Kd.R_drew HO_111003.out)
                    have n1_ := Aside0.mk (Kd.R_drew HO_111004.out)
                    have n2_ := Aside0.mk (blk_drew BK109.out)
                    have n3_ := Aside0.mk (blk_drew BK110.out)
                    have n4_ := Aside0.mk (below_drew1 HB.out)
                    clear HO_111003
                    clear HO_111004
                    clear BK109
                    clear BK110
                    clear HB
                    have HO_111003 := n0_
                    have HO_111004 := n1_
                    have BK109 := n2_
                    have BK110 := n3_
                    have HB := n4_
                    clear n0_ n1_ n2_ n3_ n4_
                    have p115 : 0 ≤ (x6_2 : Int) := of_decide_eq_true (by first | (with_reducible assumption) | assumption)
                    have q115 : x6_2 < (l0_4.length : Int) := of_decide_eq_true (by first | (with_reducible assumption) | assumption)
                    obtain ⟨ad115, e115, hx115_0⟩ := Kd.at_int HR0_4.out x6_2 p115 q115
                    have hw115_0 := hx115_0
                    cases e115
                    replace hx115_0 := (HB.out.cell (World.block_lt_of_cell? w _ hx115_0)).trans hx115_0
                    replace p115 := eq_true p115
                    replace q115 := eq_true q115
                    refine start_ (n := 12) (S := fun w' => w'.cell? ⟨gb110, 0, none⟩ = some (.int .i64 (Go.bits .and .i64 a0_0 31)) ∧ w'.cell? ⟨gb110, 1, none⟩ = some (.int .i64 (wrap64 (5 + (Go.bits .and .i64 a0_1 1)))) ∧ w'.cell? ⟨gb110, 2, none⟩ = some (.int .i64 (wrap64 ((Go.bits .and .i64 a0_2 31) + 1))) ∧ w'.cell? ⟨gb110, 3, none⟩ = some (u111003) ∧ w'.cell? ⟨gb110, 4, none⟩ = some (u111004) ∧ w'.cell? ⟨gb109, 0, none⟩ = some (.int .i64 a0_0) ∧ w'.cell? ⟨gb109, 1, none⟩ = some (.int .i64 a0_1) ∧ w'.cell? ⟨gb109, 2, none⟩ = some (.int .i64 a0_2) ∧ w'.cell? ⟨gb109, 3, none⟩ = some (.slice A0_3 l0_3.length c0_3) ∧ w'.cell? ⟨gb109, 4, none⟩ = some (.slice (some ad115) l0_4.length c0_4) ∧ w'.cell? (ad115.add (x6_2).toNat) = some (.int .i64 (rd l0_4 x6_2))) (ds := [11]) #[false, false, false, false, false, false, false, false, false, false, false, false] (by kernel_rfl) rfl rfl ⟨(blk_cell BK110.out 0).trans rfl, (blk_cell BK110.out 1).trans rfl, (blk_cell BK110.out 2).trans rfl, (blk_cell BK110.out 3).trans rfl, (blk_cell BK110.out 4).trans rfl, (blk_cell BK109.out 0).trans rfl, (blk_cell BK109.out 1).trans rfl, (blk_cell BK109.out 2).trans rfl, (blk_cell BK109.out 3).trans rfl, (blk_cell BK109.out 4).trans rfl, ((HB.out.cell (World.block_lt_of_cell? w _ hw115_0)).trans hw115_0)⟩ (fun hHeld => ?_); refine with_tabW tarnlaw11_Near.tab9 tarnlaw11_Near.bits9 (fun HT_ HW_ => ?_)
                    generalize wr.drew = w30 at HO_111003 HO_111004 BK109 BK110 HB hx115_0 hHeld ⊢
                    refine pure_ (i := 0) (N := some 52) (v := ?_) (a' := ?_) #[true, false, false, false, false, false, false, false, false, false, false, false] rfl rfl (any_of HT_.out (by kernel_rfl)) (fun _ _ _ h => h) (Or.inl ⟨by rfl, ?_⟩) ?_ ?_
                    rotate_left
                    · first | (intro w'; go_simp; with_reducible rfl) | (intro w'; refine Eq.trans (add_step (by rfl) (by rfl) (by rfl) (by assumption) w') ?_; with_reducible rfl) | (intro w'; refine Eq.trans (cut_hi_n Try.underlying9 (by rfl) (by rfl) (by rfl) (by first | assumption | exact of_eq_true (by assumption) | exact of_decide_eq_true (by assumption) | omega) w') ?_; with_reducible rfl) | (intro w'; refine Eq.trans (cut_hi Try.underlying9 (by rfl) (by rfl) (by rfl) (by first | assumption | exact of_eq_true (by assumption) | exact of_decide_eq_true (by assumption) | omega) (by first | assumption | exact of_eq_true (by assumption) | exact of_decide_eq_true (by assumption) | omega) w') ?_; with_reducible rfl) | (intro w'; refine Eq.trans (cut_lo Try.underlying9 (by rfl) (by rfl) (by rfl) (by first | assumption | exact of_eq_true (by assumption) | exact of_decide_eq_true (by assumption) | omega) (by first | assumption | exact of_eq_true (by assumption) | exact of_decide_eq_true (by assumption) | omega) w') ?_; with_reducible rfl) | (intro w'; refine Eq.trans (cut_both Try.underlying9 (by rfl) (by rfl) (by rfl) (by rfl) (by first | assumption | exact of_eq_true (by assumption) | exact of_decide_eq_true (by assumption) | omega) (by first | assumption | exact of_eq_true (by assumption) | exact of_decide_eq_true (by assumption) | omega) (by first | assumption | exact of_eq_true (by assumption) | exact of_decide_eq_true (by assumption) | omega) w') ?_; with_reducible rfl)
                    rotate_left
                    · simp only [Act.put, List.setIfInBounds_toArray, List.set_cons_zero, List.set_cons_succ, i64_w, i32_w]
                      rfl
                    refine pure_ (i := 2) (N := some 54) (v := ?_) (a' := ?_) #[true, false, true, false, false, false, false, false, false, false, false, false] rfl rfl (any_of HT_.out (by kernel_rfl)) (fun _ _ _ h => h) (Or.inl ⟨by rfl, ?_⟩) ?_ ?_
                    rotate_left
                    · first | (intro w'; go_simp; with_reducible rfl) | (intro w'; refine Eq.trans (add_step (by rfl) (by rfl) (by rfl) (by assumption) w') ?_; with_reducible rfl) | (intro w'; refine Eq.trans (cut_hi_n Try.underlying9 (by rfl) (by rfl) (by rfl) (by first | assumption | exact of_eq_true (by assumption) | exact of_decide_eq_true (by assumption) | omega) w') ?_; with_reducible rfl) | (intro w'; refine Eq.trans (cut_hi Try.underlying9 (by rfl) (by rfl) (by rfl) (by first | assumption | exact of_eq_true (by assumption) | exact of_decide_eq_true (by assumption) | omega) (by first | assumption | exact of_eq_true (by assumption) | exact of_decide_eq_true (by assumption) | omega) w') ?_; with_reducible rfl) | (intro w'; refine Eq.trans (cut_lo Try.underlying9 (by rfl) (by rfl) (by rfl) (by first | assumption | exact of_eq_true (by assumption) | exact of_decide_eq_true (by assumption) | omega) (by first | assumption | exact of_eq_true (by assumption) | exact of_decide_eq_true (by assumption) | omega) w') ?_; with_reducible rfl) | (intro w'; refine Eq.trans (cut_both Try.underlying9 (by rfl) (by rfl) (by rfl) (by rfl) (by first | assumption | exact of_eq_true (by assumption) | exact of_decide_eq_true (by assumption) | omega) (by first | assumption | exact of_eq_true (by assumption) | exact of_decide_eq_true (by assumption) | omega) (by first | assumption | exact of_eq_true (by assumption) | exact of_decide_eq_true (by assumption) | omega) w') ?_; with_reducible rfl)
                    rotate_left
                    · simp only [Act.put, List.setIfInBounds_toArray, List.set_cons_zero, List.set_cons_succ, i64_w, i32_w]
                      rfl
                    refine pure_ (i := 4) (N := some 56) (v := ?_) (a' := ?_) #[true, false, true, false, true, false, false, false, false, false, false, false] rfl rfl (any_of HT_.out (by kernel_rfl)) (fun _ _ _ h => h) (Or.inl ⟨by rfl, ?_⟩) ?_ ?_
                    rotate_left
                    · first | (intro w'; go_simp; with_reducible rfl) | (intro w'; refine Eq.trans (add_step (by rfl) (by rfl) (by rfl) (by assumption) w') ?_; with_reducible rfl) | (intro w'; refine Eq.trans (cut_hi_n Try.underlying9 (by rfl) (by rfl) (by rfl) (by first | assumption | exact of_eq_true (by assumption) | exact of_decide_eq_true (by assumption) | omega) w') ?_; with_reducible rfl) | (intro w'; refine Eq.trans (cut_hi Try.underlying9 (by rfl) (by rfl) (by rfl) (by first | assumption | exact of_eq_true (by assumption) | exact of_decide_eq_true (by assumption) | omega) (by first | assumption | exact of_eq_true (by assumption) | exact of_decide_eq_true (by assumption) | omega) w') ?_; with_reducible rfl) | (intro w'; refine Eq.trans (cut_lo Try.underlying9 (by rfl) (by rfl) (by rfl) (by first | assumption | exact of_eq_true (by assumption) | exact of_decide_eq_true (by assumption) | omega) (by first | assumption | exact of_eq_true (by assumption) | exact of_decide_eq_true (by assumption) | omega) w') ?_; with_reducible rfl) | (intro w'; refine Eq.trans (cut_both Try.underlying9 (by rfl) (by rfl) (by rfl) (by rfl) (by first | assumption | exact of_eq_true (by assumption) | exact of_decide_eq_true (by assumption) | omega) (by first | assumption | exact of_eq_true (by assumption) | exact of_decide_eq_true (by assumption) | omega) (by first | assumption | exact of_eq_true (by assumption) | exact of_decide_eq_true (by assumption) | omega) w') ?_; with_reducible rfl)
                    rotate_left
                    · simp only [Act.put, List.setIfInBounds_toArray, List.set_cons_zero, List.set_cons_succ, i64_w, i32_w]
                      rfl
                    refine take_ (i := 1) (N := some 53) (v := ?_) (a' := ?_) #[true, true, true, false, true, false, false, false, false, false, false, false] rfl rfl (take_ofW HT_.out HW_.out (by kernel_rfl)) (fun _ _ _ h => h) (Or.inl ⟨by rfl, ?_⟩) hHeld ?_ ?_
                    rotate_left
                    · rintro w' ⟨s0, s1, s2, s3, s4, s5, s6, s7, s8, s9, s10⟩
                      go_simp
                      with_reducible rfl
                    rotate_left
                    · simp only [Act.put, List.setIfInBounds_toArray, List.set_cons_zero, List.set_cons_succ, i64_w, i32_w]
                      rfl
                    refine take_ (i := 3) (N := some 55) (v := ?_) (a' := ?_) #[true, true, true, true, true, false, false, false, false, false, false, false] rfl rfl (take_ofW HT_.out HW_.out (by kernel_rfl)) (fun _ _ _ h => h) (Or.inl ⟨by rfl, ?_⟩) hHeld ?_ ?_
                    rotate_left
                    · rintro w' ⟨s0, s1, s2, s3, s4, s5, s6, s7, s8, s9, s10⟩
                      go_simp
                      with_reducible rfl
                    rotate_left
                    · simp only [Act.put, List.setIfInBounds_toArray, List.set_cons_zero, List.set_cons_succ, i64_w, i32_w]
                      rfl
                    refine pure_ (i := 5) (N := some 57) (v := ?_) (a' := ?_) #[true, true, true, true, true, true, false, false, false, false, false, false] rfl rfl (any_of HT_.out (by kernel_rfl)) (fun _ _ _ h => h) (Or.inl ⟨by rfl, ?_⟩) ?_ ?_
                    rotate_left
                    · first | (intro w'; go_simp; with_reducible rfl) | (intro w'; refine Eq.trans (add_step (by rfl) (by rfl) (by rfl) (by assumption) w') ?_; with_reducible rfl) | (intro w'; refine Eq.trans (cut_hi_n Try.underlying9 (by rfl) (by rfl) (by rfl) (by first | assumption | exact of_eq_true (by assumption) | exact of_decide_eq_true (by assumption) | omega) w') ?_; with_reducible rfl) | (intro w'; refine Eq.trans (cut_hi Try.underlying9 (by rfl) (by rfl) (by rfl) (by first | assumption | exact of_eq_true (by assumption) | exact of_decide_eq_true (by assumption) | omega) (by first | assumption | exact of_eq_true (by assumption) | exact of_decide_eq_true (by assumption) | omega) w') ?_; with_reducible rfl) | (intro w'; refine Eq.trans (cut_lo Try.underlying9 (by rfl) (by rfl) (by rfl) (by first | assumption | exact of_eq_true (by assumption) | exact of_decide_eq_true (by assumption) | omega) (by first | assumption | exact of_eq_true (by assumption) | exact of_decide_eq_true (by assumption) | omega) w') ?_; with_reducible rfl) | (intro w'; refine Eq.trans (cut_both Try.underlying9 (by rfl) (by rfl) (by rfl) (by rfl) (by first | assumption | exact of_eq_true (by assumption) | exact of_decide_eq_true (by assumption) | omega) (by first | assumption | exact of_eq_true (by assumption) | exact of_decide_eq_true (by assumption) | omega) (by first | assumption | exact of_eq_true (by assumption) | exact of_decide_eq_true (by assumption) | omega) w') ?_; with_reducible rfl)
                    rotate_left
                    · simp only [Act.put, List.setIfInBounds_toArray, List.set_cons_zero, List.set_cons_succ, i64_w, i32_w]
                      rfl
                    refine take_ (i := 6) (N := some 58) (v := ?_) (a' := ?_) #[true, true, true, true, true, true, true, false, false, false, false, false] rfl rfl (take_ofW HT_.out HW_.out (by kernel_rfl)) (fun _ _ _ h => h) (Or.inl ⟨by rfl, ?_⟩) hHeld ?_ ?_
                    rotate_left
                    · rintro w' ⟨s0, s1, s2, s3, s4, s5, s6, s7, s8, s9, s10⟩
                      go_simp
                      with_reducible rfl
                    rotate_left
                    · simp only [Act.put, List.setIfInBounds_toArray, List.set_cons_zero, List.set_cons_succ, i64_w, i32_w]
                      rfl
                    refine pure_ (i := 7) (N := some 59) (v := ?_) (a' := ?_) #[true, true, true, true, true, true, true, true, false, false, false, false] rfl rfl (any_of HT_.out (by kernel_rfl)) (fun _ _ _ h => h) (Or.inl ⟨by rfl, ?_⟩) ?_ ?_
                    rotate_left
                    · first | (intro w'; go_simp; with_reducible rfl) | (intro w'; refine Eq.trans (add_step (by rfl) (by rfl) (by rfl) (by assumption) w') ?_; with_reducible rfl) | (intro w'; refine Eq.trans (cut_hi_n Try.underlying9 (by rfl) (by rfl) (by rfl) (by first | assumption | exact of_eq_true (by assumption) | exact of_decide_eq_true (by assumption) | omega) w') ?_; with_reducible rfl) | (intro w'; refine Eq.trans (cut_hi Try.underlying9 (by rfl) (by rfl) (by rfl) (by first | assumption | exact of_eq_true (by assumption) | exact of_decide_eq_true (by assumption) | omega) (by first | assumption | exact of_eq_true (by assumption) | exact of_decide_eq_true (by assumption) | omega) w') ?_; with_reducible rfl) | (intro w'; refine Eq.trans (cut_lo Try.underlying9 (by rfl) (by rfl) (by rfl) (by first | assumption | exact of_eq_true (by assumption) | exact of_decide_eq_true (by assumption) | omega) (by first | assumption | exact of_eq_true (by assumption) | exact of_decide_eq_true (by assumption) | omega) w') ?_; with_reducible rfl) | (intro w'; refine Eq.trans (cut_both Try.underlying9 (by rfl) (by rfl) (by rfl) (by rfl) (by first | assumption | exact of_eq_true (by assumption) | exact of_decide_eq_true (by assumption) | omega) (by first | assumption | exact of_eq_true (by assumption) | exact of_decide_eq_true (by assumption) | omega) (by first | assumption | exact of_eq_true (by assumption) | exact of_decide_eq_true (by assumption) | omega) w') ?_; with_reducible rfl)
                    rotate_left
                    · simp only [Act.put, List.setIfInBounds_toArray, List.set_cons_zero, List.set_cons_succ, i64_w, i32_w]
                      rfl
                    refine one_ (i := 8) (N := some 60) #[true, true, true, true, true, true, true, true, true, false, false, false] rfl rfl (one_of HT_.out (by kernel_rfl)) (by decide) (fun K hK => ?_)
                    refine value_ (w1 := ?_) (v := ?_) (by rfl) rfl ?_ ?_
                    rotate_left 2
                    · go_simp
                      constructor
                      · rfl
                      · rfl
                    refine hK.out _ _ ⟨(blk_cell (blk_alloc BK110.out _) 0).trans rfl, (blk_cell (blk_alloc BK110.out _) 1).trans rfl, (blk_cell (blk_alloc BK110.out _) 2).trans rfl, (blk_cell (blk_alloc BK110.out _) 3).trans rfl, (blk_cell (blk_alloc BK110.out _) 4).trans rfl, (blk_cell (blk_alloc BK109.out _) 0).trans rfl, (blk_cell (blk_alloc BK109.out _) 1).trans rfl, (blk_cell (blk_alloc BK109.out _) 2).trans rfl, (blk_cell (blk_alloc BK109.out _) 3).trans rfl, (blk_cell (blk_alloc BK109.out _) 4).trans rfl, (World.cell?_alloc_lt _ _ _ (World.block_lt_of_cell? _ _ (((HB.out.cell (World.block_lt_of_cell? w _ hw115_0)).trans hw115_0)))).trans (((HB.out.cell (World.block_lt_of_cell? w _ hw115_0)).trans hw115_0))⟩ (fun hHeld => ?_)
                    clear hK K
                    refine norm_ (a' := ?_) ?_ ?_
                    rotate_left
                    · show Act.put _ (some 60) _ = _
                      simp only [Act.put, List.setIfInBounds_toArray, List.set_cons_zero, List.set_cons_succ, i64_w, i32_w]
                      rfl
                    refine one_ (i := 9) (N := some 61) #[true, true, true, true, true, true, true, true, true, true, false, false] rfl rfl (one_of HT_.out (by kernel_rfl)) (by decide) (fun K hK => ?_)
                    refine Kd.R_append_step (Kd.int .i64) (w0 := w) w.heap.size (by rfl) (.tmp 53) (.tmp 60) 22 3 (.int .i64 0) 8 rfl Try.underlying22 info3 rfl (by decide) (by omega) u111004 x111004_2 (Go.bits .and .i64 (rd l0_4 x6_2) 7) [.int .i64 (Go.bits .and .i64 (rd l0_4 x6_2) 7)] (fun k_ => some k_ ≠ (u111003 : Value).ownBlock) (fun _ => False) rfl rfl ?aP (fun _ hk => hk.elim) ?aF ?aO ?aB ?aS ?aL ?_
                    (case aP => exact rfl)
                    (case aB => exact (by repeat (first | (with_reducible first | exact HB.out | apply below_alloc | apply pw_below_drewN | apply below_drew1 | refine below_set ?_ GE109.out | refine below_set ?_ GE110.out) | exact HB.out)))
                    (case aF => exact (fun k_ hk => Kd.fresh' (Kd.R_lt (by (with_reducible repeat (first | apply Kd.R_alloc | apply Kd.R_drewN | apply Kd.R_drew)); exact HO_111003.out)) k_ hk))
                    (case aO => exact (by (with_reducible repeat (first | apply Kd.R_alloc | apply Kd.R_drewN | apply Kd.R_drew)); exact HO_111004.out))
                    (case aS => exact (below_size (by repeat (first | (with_reducible first | exact HB.out | apply below_alloc | apply pw_below_drewN | apply below_drew1 | refine below_set ?_ GE109.out | refine below_set ?_ GE110.out) | exact HB.out))))
                    (case aL => have := LMc27.out; omega)
                    intro v117 w31 ho hb hg hat
                    rw [← Ny116.out] at ho
                    have n0_ := Aside0.mk (Kd.R_after (ok := (fun _ => True)) (by (with_reducible repeat (first | apply Kd.R_alloc | apply Kd.R_drewN | apply Kd.R_drew)); exact Kd.R_mono HO_111003.out (fun _ hk => ⟨trivial, hk⟩)) hg hat)
                    have n1_ := Aside0.mk (blk_grown (g := gb109) (o := .cells #[.int .i64 a0_0, .int .i64 a0_1, .int .i64 a0_2, .slice A0_3 l0_3.length c0_3, .slice (some ad115) l0_4.length c0_4] 24 (0, 0)) (by (with_reducible repeat (first | refine blk_drewN ?_ _ | refine blk_drew ?_ | refine blk_alloc ?_ _)); exact BK109.out) hg (Kd.R_ne HO_111004.out BK109.out (by decide)))
                    have n2_ := Aside0.mk (blk_grown (g := gb110) (o := .cells #[.int .i64 (Go.bits .and .i64 a0_0 31), .int .i64 (wrap64 (5 + (Go.bits .and .i64 a0_1 1))), .int .i64 (wrap64 ((Go.bits .and .i64 a0_2 31) + 1)), u111003, u111004] 24 (0, 0)) (by (with_reducible repeat (first | refine blk_drewN ?_ _ | refine blk_drew ?_ | refine blk_alloc ?_ _)); exact BK110.out) hg (Kd.R_ne HO_111004.out BK110.out (by decide)))
                    have n3_ := Aside0.mk (hb)
                    have n4_ := Aside0.mk (ho)
                    clear HO_111003
                    clear BK109
                    clear BK110
                    clear HB
                    clear HO_111004
                    have HO_111003 := n0_
                    have BK109 := n1_
                    have BK110 := n2_
                    have HB := n3_
                    have HO118 := n4_
                    clear n0_ n1_ n2_ n3_ n4_
                    clear ho hb hg hat
                    obtain ⟨Ao32, co32, eo32⟩ := Kd.R_slice HO118.out
                    (first | subst eo32 | (injection eo32 with f1_ f2_ f3_; have f4_ := f1_.symm; have f5_ := f3_.symm; clear f1_ f2_ f3_; subst f4_; subst f5_))
                    refine hK.out _ _ ⟨(blk_cell BK110.out 0).trans rfl, (blk_cell BK110.out 1).trans rfl, (blk_cell BK110.out 2).trans rfl, (blk_cell BK110.out 3).trans rfl, (blk_cell BK110.out 4).trans rfl, (blk_cell BK109.out 0).trans rfl, (blk_cell BK109.out 1).trans rfl, (blk_cell BK109.out 2).trans rfl, (blk_cell BK109.out 3).trans rfl, (blk_cell BK109.out 4).trans rfl, ((HB.out.cell (World.block_lt_of_cell? w _ hw115_0)).trans hw115_0)⟩ (fun hHeld => ?_)
                    clear hK K
                    refine norm_ (a' := ?_) ?_ ?_
                    rotate_left
                    · show Act.put _ (some 61) _ = _
                      simp only [Act.put, List.setIfInBounds_toArray, List.set_cons_zero, List.set_cons_succ, i64_w, i32_w]
                      rfl
                    refine pure_ (i := 10) (N := some 62) (v := ?_) (a' := ?_) #[true, true, true, true, true, true, true, true, true, true, true, false] rfl rfl (any_of HT_.out (by kernel_rfl)) (fun _ _ _ h => h) (Or.inl ⟨by rfl, ?_⟩) ?_ ?_
                    rotate_left
                    · first | (intro w'; go_simp; with_reducible rfl) | (intro w'; refine Eq.trans (add_step (by rfl) (by rfl) (by rfl) (by assumption) w') ?_; with_reducible rfl) | (intro w'; refine Eq.trans (cut_hi_n Try.underlying9 (by rfl) (by rfl) (by rfl) (by first | assumption | exact of_eq_true (by assumption) | exact of_decide_eq_true (by assumption) | omega) w') ?_; with_reducible rfl) | (intro w'; refine Eq.trans (cut_hi Try.underlying9 (by rfl) (by rfl) (by rfl) (by first | assumption | exact of_eq_true (by assumption) | exact of_decide_eq_true (by assumption) | omega) (by first | assumption | exact of_eq_true (by assumption) | exact of_decide_eq_true (by assumption) | omega) w') ?_; with_reducible rfl) | (intro w'; refine Eq.trans (cut_lo Try.underlying9 (by rfl) (by rfl) (by rfl) (by first | assumption | exact of_eq_true (by assumption) | exact of_decide_eq_true (by assumption) | omega) (by first | assumption | exact of_eq_true (by assumption) | exact of_decide_eq_true (by assumption) | omega) w') ?_; with_reducible rfl) | (intro w'; refine Eq.trans (cut_both Try.underlying9 (by rfl) (by rfl) (by rfl) (by rfl) (by first | assumption | exact of_eq_true (by assumption) | exact of_decide_eq_true (by assumption) | omega) (by first | assumption | exact of_eq_true (by assumption) | exact of_decide_eq_true (by assumption) | omega) (by first | assumption | exact of_eq_true (by assumption) | exact of_decide_eq_true (by assumption) | omega) w') ?_; with_reducible rfl)
                    rotate_left
                    · simp only [Act.put, List.setIfInBounds_toArray, List.set_cons_zero, List.set_cons_succ, i64_w, i32_w]
                      rfl
                    refine last_ (i := 11) (N := none) #[true, true, true, true, true, true, true, true, true, true, true, true] rfl rfl (one_of HT_.out (by kernel_rfl)) (by decide) (fun K hK => ?_)
                    have hs33 : w31.cell? ⟨gb110, 4, none⟩ = some (u111004) := (blk_cell BK110.out 4).trans rfl
                    have hfs33 := blk_frozen BK110.out 4
                    have hns33_0 := NB109_110.out
                    have hms33_0 := NB110_109.out
                    refine skip_ (w1 := ?_) (by rfl) rfl ?_ ?_
                    rotate_left
                    · go_simp
                      rfl
                    refine hK.out _ _ ?_
                    clear hK K
                    refine done_ (done_of HT_.out (by kernel_rfl)) ?_
                    try go_wp2
                    go_roundg k2
                    case measure => have := HJ2.out; have := HK2.out; omega
                    case rel => exact ⟨(wrap64 (x6_2 + 1)), (y116), (.slice Ao32 y116.length co32), (by first | rfl | (simp; done) | (simp [*]; done)), H', ⟨by have := HJ2.out; have := HK2.out; omega⟩, ⟨by (with_reducible repeat (first | apply Kd.R_alloc | apply Kd.R_drewN | apply Kd.R_drew)); exact Kd.R_mono (Kd.R_far (p := ⟨gb110, 4, none⟩) (Kd.R_types HO_111003.out BK110.out (by decide)) (fun _ hk => hk.2) (.slice Ao32 y116.length co32)) (fun _ hk => hk.1.2)⟩, ⟨by (with_reducible repeat (first | apply Kd.R_alloc | apply Kd.R_drewN | apply Kd.R_drew)); exact Kd.R_mono (Kd.R_far (p := ⟨gb110, 4, none⟩) (Kd.R_types HO118.out BK110.out (by decide)) (fun _ hk => hk.2) (.slice Ao32 y116.length co32)) (fun _ hk => hk.1)⟩, ⟨by (with_reducible repeat (first | refine blk_drewN ?_ _ | refine blk_drew ?_ | refine blk_alloc ?_ _)); refine blk_far ?_ NB109_110.out _; (with_reducible repeat (first | refine blk_drewN ?_ _ | refine blk_drew ?_ | refine blk_alloc ?_ _)); exact BK109.out⟩, ⟨by (with_reducible repeat (first | refine blk_drewN ?_ _ | refine blk_drew ?_ | refine blk_alloc ?_ _)); refine blk_put (cs := #[.int .i64 (Go.bits .and .i64 a0_0 31), .int .i64 (wrap64 (5 + (Go.bits .and .i64 a0_1 1))), .int .i64 (wrap64 ((Go.bits .and .i64 a0_2 31) + 1)), u111003, u111004]) ?_ 4 _ rfl; (with_reducible repeat (first | refine blk_drewN ?_ _ | refine blk_drew ?_ | refine blk_alloc ?_ _)); exact BK110.out⟩, ⟨by repeat (first | (with_reducible first | exact HB.out | apply below_alloc | apply pw_below_drewN | apply below_drew1 | refine below_set ?_ GE109.out | refine below_set ?_ GE110.out) | exact HB.out)⟩⟩
                  · rw [if_neg c27] at H
                    exact absurd H (by simp)
                · rw [if_neg c26] at H
                  exact absurd H (by simp)
              · rw [if_neg c25] at H
                have c25b0 : decide (x6_2 < 4) = false := decide_eq_false c25
                clear c25
                have H' := Aside0.mk H
                clear H
                have hnb34 := NB109_110.out
                have hnc34 := NB110_109.out
                have hcz35_0 : wr.cell? ⟨gb109, 0, none⟩ = some (.int .i64 a0_0) := (blk_cell BK109.out 0).trans rfl
                have hcz35_1 : wr.cell? ⟨gb109, 1, none⟩ = some (.int .i64 a0_1) := (blk_cell BK109.out 1).trans rfl
                have hcz35_2 : wr.cell? ⟨gb109, 2, none⟩ = some (.int .i64 a0_2) := (blk_cell BK109.out 2).trans rfl
                have hcz35_3 : wr.cell? ⟨gb109, 3, none⟩ = some (.slice A0_3 l0_3.length c0_3) := (blk_cell BK109.out 3).trans rfl
                have hcz35_4 : wr.cell? ⟨gb109, 4, none⟩ = some (.slice A0_4 l0_4.length c0_4) := (blk_cell BK109.out 4).trans rfl
                have hfz35_0 := blk_frozen BK109.out 0
                have hfz35_1 := blk_frozen BK109.out 1
                have hfz35_2 := blk_frozen BK109.out 2
                have hfz35_3 := blk_frozen BK109.out 3
                have hfz35_4 := blk_frozen BK109.out 4
                go_wp2
                go_meet
                case rel => exact ⟨_, (x111004_2), (u111004), H', ⟨by have := HJ2.out; have := HK2.out; first | omega | exact Nat.le_refl _⟩, ⟨by (with_reducible repeat (first | apply Kd.R_alloc | apply Kd.R_drewN | apply Kd.R_drew)); exact HO_111003.out⟩, ⟨by (with_reducible repeat (first | apply Kd.R_alloc | apply Kd.R_drewN | apply Kd.R_drew)); exact HO_111004.out⟩, ⟨by (with_reducible repeat (first | refine blk_drewN ?_ _ | refine blk_drew ?_ | refine blk_alloc ?_ _)); exact BK109.out⟩, ⟨by (with_reducible repeat (first | refine blk_drewN ?_ _ | refine blk_drew ?_ | refine blk_alloc ?_ _)); exact BK110.out⟩, ⟨by repeat (first | (with_reducible first | exact HB.out | apply below_alloc | apply pw_below_drewN | apply below_drew1 | refine below_set ?_ GE109.out | refine below_set ?_ GE110.out) | exact HB.out)⟩⟩
            · rw [if_neg c24] at H
              have c24b0 : decide (x6_2 < (l0_4.length : Int)) = false := decide_eq_false c24
              clear c24
              (first | rw [c24b0] | (simp only [i64_w, i32_w]; rw [c24b0]) | rw [c24b1] | skip)
              have H' := Aside0.mk H
              clear H
              have hnb36 := NB109_110.out
              have hnc36 := NB110_109.out
              have hcz37_0 : wr.cell? ⟨gb109, 0, none⟩ = some (.int .i64 a0_0) := (blk_cell BK109.out 0).trans rfl
              have hcz37_1 : wr.cell? ⟨gb109, 1, none⟩ = some (.int .i64 a0_1) := (blk_cell BK109.out 1).trans rfl
              have hcz37_2 : wr.cell? ⟨gb109, 2, none⟩ = some (.int .i64 a0_2) := (blk_cell BK109.out 2).trans rfl
              have hcz37_3 : wr.cell? ⟨gb109, 3, none⟩ = some (.slice A0_3 l0_3.length c0_3) := (blk_cell BK109.out 3).trans rfl
              have hcz37_4 : wr.cell? ⟨gb109, 4, none⟩ = some (.slice A0_4 l0_4.length c0_4) := (blk_cell BK109.out 4).trans rfl
              have hfz37_0 := blk_frozen BK109.out 0
              have hfz37_1 := blk_frozen BK109.out 1
              have hfz37_2 := blk_frozen BK109.out 2
              have hfz37_3 := blk_frozen BK109.out 3
              have hfz37_4 := blk_frozen BK109.out 4
              go_wp2
              go_meet
              case rel => exact ⟨_, (x111004_2), (u111004), H', ⟨by have := HJ2.out; have := HK2.out; first | omega | exact Nat.le_refl _⟩, ⟨by (with_reducible repeat (first | apply Kd.R_alloc | apply Kd.R_drewN | apply Kd.R_drew)); exact HO_111003.out⟩, ⟨by (with_reducible repeat (first | apply Kd.R_alloc | apply Kd.R_drewN | apply Kd.R_drew)); exact HO_111004.out⟩, ⟨by (with_reducible repeat (first | refine blk_drewN ?_ _ | refine blk_drew ?_ | refine blk_alloc ?_ _)); exact BK109.out⟩, ⟨by (with_reducible repeat (first | refine blk_drewN ?_ _ | refine blk_drew ?_ | refine blk_alloc ?_ _)); exact BK110.out⟩, ⟨by repeat (first | (with_reducible first | exact HB.out | apply below_alloc | apply pw_below_drewN | apply below_drew1 | refine below_set ?_ GE109.out | refine below_set ?_ GE110.out) | exact HB.out)⟩⟩
      case rest =>
        clear HC23
        try clear c1
        try clear p1
        try clear q1
        try clear hx1
        try clear c2
        try clear p2
        try clear c3
        try clear c6
        try clear p6
        try clear c9
        try clear c9b0
        try clear c9b1
        try clear c10
        try clear c10b0
        try clear c11
        try clear c11b0
        try clear p11
        try clear q11
        try clear hx11
        try clear c12
        try clear c13
        try clear c19
        try clear c21
        try clear c24
        try clear c24b0
        try clear c24b1
        try clear c25
        try clear c25b0
        try clear c26
        try clear c26b0
        try clear c27
        try clear c28
        try clear c34
        try clear c36
        try clear hcz14_0
        try clear hcz14_1
        try clear hcz14_2
        try clear hcz14_3
        try clear hcz14_4
        try clear hcz20_0
        try clear hcz20_1
        try clear hcz20_2
        try clear hcz20_3
        try clear hcz20_4
        try clear hcz22_0
        try clear hcz22_1
        try clear hcz22_2
        try clear hcz22_3
        try clear hcz22_4
        try clear hcz29_0
        try clear hcz29_1
        try clear hcz29_2
        try clear hcz29_3
        try clear hcz29_4
        try clear hcz35_0
        try clear hcz35_1
        try clear hcz35_2
        try clear hcz35_3
        try clear hcz35_4
        try clear hcz37_0
        try clear hcz37_1
        try clear hcz37_2
        try clear hcz37_3
        try clear hcz37_4
        try clear hcz7_0
        try clear hcz7_1
        try clear hcz7_2
        try clear hcz7_3
        try clear hcz7_4
        try clear hcz8_0
        try clear hcz8_1
        try clear hcz8_2
        try clear hcz8_3
        try clear hcz8_4
        try clear hfz14_0
        try clear hfz14_1
        try clear hfz14_2
        try clear hfz14_3
        try clear hfz14_4
        try clear hfz20_0
        try clear hfz20_1
        try clear hfz20_2
        try clear hfz20_3
        try clear hfz20_4
        try clear hfz22_0
        try clear hfz22_1
        try clear hfz22_2
        try clear hfz22_3
        try clear hfz22_4
        try clear hfz29_0
        try clear hfz29_1
        try clear hfz29_2
        try clear hfz29_3
        try clear hfz29_4
        try clear hfz35_0
        try clear hfz35_1
        try clear hfz35_2
        try clear hfz35_3
        try clear hfz35_4
        try clear hfz37_0
        try clear hfz37_1
        try clear hfz37_2
        try clear hfz37_3
        try clear hfz37_4
        try clear hfz7_0
        try clear hfz7_1
        try clear hfz7_2
        try clear hfz7_3
        try clear hfz7_4
        try clear hfz8_0
        try clear hfz8_1
        try clear hfz8_2
        try clear hfz8_3
        try clear hfz8_4
        try clear hx111_0
        try clear hx115_0
        try clear p1
        try clear p11
        try clear p111
        try clear p115
        try clear p2
        try clear p6
        try clear q1
        try clear q11
        try clear q111
        try clear q115
        obtain ⟨kq, x111004_22, u111004, HA, HJ22, HO_111003, HO_111004, BK109, BK110, HB⟩ := hcut
        cases kq with
        | zero => exact absurd HA.out (by simp [tarnlaw11_Near.j3])
        | succ kj22 =>
          have H := HA.out
          clear HA
          simp only [tarnlaw11_Near.j3] at H
          have HC38 := Aside0.mk H
          clear H
          go_upto_region 10 with (fail)
          go_cut [73] (fun v73 wc => ∃ (kq : Nat) (x73_37 : Bool), v73 = .bool x73_37 ∧ Aside0 (tarnlaw11_Near.j4 kq a1 x73_37 a0_0 a0_1 a0_2 l0_3 l0_4 (Go.bits .and .i64 a0_0 31) (wrap64 (5 + (Go.bits .and .i64 a0_1 1))) (wrap64 ((Go.bits .and .i64 a0_2 31) + 1)) x111003_2 x111004_22 = some (r1, r2, r3, r4, r5)) ∧ Aside0 (kq ≤ kj22) ∧ Aside0 (Kd.R (Kd.int .i64) 3 wc w.heap.size (fun k_ => some k_ ≠ (u111004 : Value).ownBlock) u111003 x111003_2) ∧ Aside0 (Kd.R (Kd.int .i64) 3 wc w.heap.size (fun k_ => some k_ ≠ (u111003 : Value).ownBlock) u111004 x111004_22) ∧ Aside0 (wc.heap[gb109]? = some (.cells #[.int .i64 a0_0, .int .i64 a0_1, .int .i64 a0_2, (.slice A0_3 l0_3.length c0_3), (.slice A0_4 l0_4.length c0_4)] 24 (0, 0))) ∧ Aside0 (wc.heap[gb110]? = some (.cells #[.int .i64 (Go.bits .and .i64 a0_0 31), .int .i64 (wrap64 (5 + (Go.bits .and .i64 a0_1 1))), .int .i64 (wrap64 ((Go.bits .and .i64 a0_2 31) + 1)), u111003, u111004] 24 (0, 0))) ∧ Aside0 (Below w.heap.size w wc))
          case first =>
            have H := HC38.out
            clear HC38
            replace H := Option.bind_eq_some_iff.mp H
            obtain ⟨t119, A390, H⟩ := H
            replace H : (if t119 = true then (tarnlaw11_Near.j4 kj22 a1 false a0_0 a0_1 a0_2 l0_3 l0_4 (Go.bits .and .i64 a0_0 31) (wrap64 (5 + (Go.bits .and .i64 a0_1 1))) (wrap64 ((Go.bits .and .i64 a0_2 31) + 1)) x111003_2 x111004_22) else (tarnlaw11_Near.j4 kj22 a1 ((Go.bits .and .i64 a1 3) != 0) a0_0 a0_1 a0_2 l0_3 l0_4 (Go.bits .and .i64 a0_0 31) (wrap64 (5 + (Go.bits .and .i64 a0_1 1))) (wrap64 ((Go.bits .and .i64 a0_2 31) + 1)) x111003_2 x111004_22)) = some (r1, r2, r3, r4, r5) := H
            have A39 := Aside0.mk A390
            clear A390
            by_cases c40 : t119 = true
            · subst c40
              have H1 : (tarnlaw11_Near.j4 kj22 a1 false a0_0 a0_1 a0_2 l0_3 l0_4 (Go.bits .and .i64 a0_0 31) (wrap64 (5 + (Go.bits .and .i64 a0_1 1))) (wrap64 ((Go.bits .and .i64 a0_2 31) + 1)) x111003_2 x111004_22) = some (r1, r2, r3, r4, r5) := by rw [if_pos rfl] at H; exact H
              clear H
              have H := H1
              clear H1
              have H' := Aside0.mk H
              clear H
              have hnb41 := NB110_109.out
              have hnc41 := NB109_110.out
              have hcz42_0 : wc.cell? ⟨gb110, 0, none⟩ = some (.int .i64 (Go.bits .and .i64 a0_0 31)) := (blk_cell BK110.out 0).trans rfl
              have hcz42_1 : wc.cell? ⟨gb110, 1, none⟩ = some (.int .i64 (wrap64 (5 + (Go.bits .and .i64 a0_1 1)))) := (blk_cell BK110.out 1).trans rfl
              have hcz42_2 : wc.cell? ⟨gb110, 2, none⟩ = some (.int .i64 (wrap64 ((Go.bits .and .i64 a0_2 31) + 1))) := (blk_cell BK110.out 2).trans rfl
              have hcz42_3 : wc.cell? ⟨gb110, 3, none⟩ = some (u111003) := (blk_cell BK110.out 3).trans rfl
              have hcz42_4 : wc.cell? ⟨gb110, 4, none⟩ = some (u111004) := (blk_cell BK110.out 4).trans rfl
              have hfz42_0 := blk_frozen BK110.out 0
              have hfz42_1 := blk_frozen BK110.out 1
              have hfz42_2 := blk_frozen BK110.out 2
              have hfz42_3 := blk_frozen BK110.out 3
              have hfz42_4 := blk_frozen BK110.out 4
              obtain ⟨Ao43, co43, eo43⟩ := Kd.R_slice HO_111003.out
              subst eo43
              obtain ⟨Ao44, co44, eo44⟩ := Kd.R_slice HO_111004.out
              subst eo44
              go_wp2_with (first | ((with_reducible refine gate_callee (f := 31) rfl ?_); refine goesL_ (some 67) rfl rfl Try.func31 (by kernel_rfl) rfl #[.slice Ao43 x111003_2.length co43, .slice Ao44 x111004_22.length co44] rfl (by (try simp only [List.map_toArray, List.map_cons, List.map_nil]); first | done | rfl | (simp only [List.length_drop, List.length_take]; rfl)) ?_; (with_reducible refine (tarnref11_Lists.calls kj22 _ _ x111003_2 _ _ x111004_22 true _ ?side1 ?side2 ?side3 ?side4 A39.out).mono ?_); (case side1 => repeat (first | exact (Kd.R_reads' HO_111003.out).2.2 | (with_reducible refine Kd.C_alloc ?_ _) | (with_reducible refine Kd.C_drewN ?_ _) | (with_reducible refine Kd.C_drew ?_))); (case side2 => exact (Kd.R_reads' HO_111003.out).2.1); (case side3 => repeat (first | exact (Kd.R_reads' HO_111004.out).2.2 | (with_reducible refine Kd.C_alloc ?_ _) | (with_reducible refine Kd.C_drewN ?_ _) | (with_reducible refine Kd.C_drew ?_))); (case side4 => exact (Kd.R_reads' HO_111004.out).2.1); rintro e w' ⟨rfl, ⟨nd, rfl⟩⟩; refine ⟨_, rfl, ?_⟩))
              go_meet
              case rel => exact ⟨_, (false), (by first | rfl | (simp; done) | (simp [*]; done)), H', ⟨by have := HJ2.out; have := HJ22.out; first | omega | exact Nat.le_refl _⟩, ⟨by (with_reducible repeat (first | apply Kd.R_alloc | apply Kd.R_drewN | apply Kd.R_drew)); exact HO_111003.out⟩, ⟨by (with_reducible repeat (first | apply Kd.R_alloc | apply Kd.R_drewN | apply Kd.R_drew)); exact HO_111004.out⟩, ⟨by (with_reducible repeat (first | refine blk_drewN ?_ _ | refine blk_drew ?_ | refine blk_alloc ?_ _)); exact BK109.out⟩, ⟨by (with_reducible repeat (first | refine blk_drewN ?_ _ | refine blk_drew ?_ | refine blk_alloc ?_ _)); exact BK110.out⟩, ⟨by repeat (first | (with_reducible first | exact HB.out | apply below_alloc | apply pw_below_drewN | apply below_drew1 | refine below_set ?_ GE109.out | refine below_set ?_ GE110.out) | exact HB.out)⟩⟩
            · replace c40 := Bool.eq_false_iff.mpr c40
              subst c40
              have H1 : (tarnlaw11_Near.j4 kj22 a1 ((Go.bits .and .i64 a1 3) != 0) a0_0 a0_1 a0_2 l0_3 l0_4 (Go.bits .and .i64 a0_0 31) (wrap64 (5 + (Go.bits .and .i64 a0_1 1))) (wrap64 ((Go.bits .and .i64 a0_2 31) + 1)) x111003_2 x111004_22) = some (r1, r2, r3, r4, r5) := by rw [if_neg (show ¬ (false = true) by decide)] at H; exact H
              clear H
              have H := H1
              clear H1
              have H' := Aside0.mk H
              clear H
              have hnb45 := NB110_109.out
              have hnc45 := NB109_110.out
              have hcz46_0 : wc.cell? ⟨gb110, 0, none⟩ = some (.int .i64 (Go.bits .and .i64 a0_0 31)) := (blk_cell BK110.out 0).trans rfl
              have hcz46_1 : wc.cell? ⟨gb110, 1, none⟩ = some (.int .i64 (wrap64 (5 + (Go.bits .and .i64 a0_1 1)))) := (blk_cell BK110.out 1).trans rfl
              have hcz46_2 : wc.cell? ⟨gb110, 2, none⟩ = some (.int .i64 (wrap64 ((Go.bits .and .i64 a0_2 31) + 1))) := (blk_cell BK110.out 2).trans rfl
              have hcz46_3 : wc.cell? ⟨gb110, 3, none⟩ = some (u111003) := (blk_cell BK110.out 3).trans rfl
              have hcz46_4 : wc.cell? ⟨gb110, 4, none⟩ = some (u111004) := (blk_cell BK110.out 4).trans rfl
              have hfz46_0 := blk_frozen BK110.out 0
              have hfz46_1 := blk_frozen BK110.out 1
              have hfz46_2 := blk_frozen BK110.out 2
              have hfz46_3 := blk_frozen BK110.out 3
              have hfz46_4 := blk_frozen BK110.out 4
              obtain ⟨Ao47, co47, eo47⟩ := Kd.R_slice HO_111003.out
              subst eo47
              obtain ⟨Ao48, co48, eo48⟩ := Kd.R_slice HO_111004.out
              subst eo48
              go_wp2_with (first | ((with_reducible refine gate_callee (f := 31) rfl ?_); refine goesL_ (some 67) rfl rfl Try.func31 (by kernel_rfl) rfl #[.slice Ao47 x111003_2.length co47, .slice Ao48 x111004_22.length co48] rfl (by (try simp only [List.map_toArray, List.map_cons, List.map_nil]); first | done | rfl | (simp only [List.length_drop, List.length_take]; rfl)) ?_; (with_reducible refine (tarnref11_Lists.calls kj22 _ _ x111003_2 _ _ x111004_22 false _ ?side1 ?side2 ?side3 ?side4 A39.out).mono ?_); (case side1 => repeat (first | exact (Kd.R_reads' HO_111003.out).2.2 | (with_reducible refine Kd.C_alloc ?_ _) | (with_reducible refine Kd.C_drewN ?_ _) | (with_reducible refine Kd.C_drew ?_))); (case side2 => exact (Kd.R_reads' HO_111003.out).2.1); (case side3 => repeat (first | exact (Kd.R_reads' HO_111004.out).2.2 | (with_reducible refine Kd.C_alloc ?_ _) | (with_reducible refine Kd.C_drewN ?_ _) | (with_reducible refine Kd.C_drew ?_))); (case side4 => exact (Kd.R_reads' HO_111004.out).2.1); rintro e w' ⟨rfl, ⟨nd, rfl⟩⟩; refine ⟨_, rfl, ?_⟩))
              go_meet
              case rel => exact ⟨_, (((Go.bits .and .i64 a1 3) != 0)), (by first | rfl | (simp; done) | (simp [*]; done)), H', ⟨by have := HJ2.out; have := HJ22.out; first | omega | exact Nat.le_refl _⟩, ⟨by (with_reducible repeat (first | apply Kd.R_alloc | apply Kd.R_drewN | apply Kd.R_drew)); exact HO_111003.out⟩, ⟨by (with_reducible repeat (first | apply Kd.R_alloc | apply Kd.R_drewN | apply Kd.R_drew)); exact HO_111004.out⟩, ⟨by (with_reducible repeat (first | refine blk_drewN ?_ _ | refine blk_drew ?_ | refine blk_alloc ?_ _)); exact BK109.out⟩, ⟨by (with_reducible repeat (first | refine blk_drewN ?_ _ | refine blk_drew ?_ | refine blk_alloc ?_ _)); exact BK110.out⟩, ⟨by repeat (first | (with_reducible first | exact HB.out | apply below_alloc | apply pw_below_drewN | apply below_drew1 | refine below_set ?_ GE109.out | refine below_set ?_ GE110.out) | exact HB.out)⟩⟩
          case rest =>
            clear HC38
            try clear c1
            try clear p1
            try clear q1
            try clear hx1
            try clear c2
            try clear p2
            try clear c3
            try clear c4
            try clear c6
            try clear p6
            try clear c9
            try clear c9b0
            try clear c9b1
            try clear c10
            try clear c10b0
            try clear c11
            try clear c11b0
            try clear p11
            try clear q11
            try clear hx11
            try clear c12
            try clear c13
            try clear c19
            try clear c21
            try clear c24
            try clear c24b0
            try clear c24b1
            try clear c25
            try clear c25b0
            try clear c26
            try clear c26b0
            try clear c27
            try clear c28
            try clear c31
            try clear c34
            try clear c36
            try clear c40
            try clear c41
            try clear c45
            try clear hcz14_0
            try clear hcz14_1
            try clear hcz14_2
            try clear hcz14_3
            try clear hcz14_4
            try clear hcz20_0
            try clear hcz20_1
            try clear hcz20_2
            try clear hcz20_3
            try clear hcz20_4
            try clear hcz22_0
            try clear hcz22_1
            try clear hcz22_2
            try clear hcz22_3
            try clear hcz22_4
            try clear hcz29_0
            try clear hcz29_1
            try clear hcz29_2
            try clear hcz29_3
            try clear hcz29_4
            try clear hcz35_0
            try clear hcz35_1
            try clear hcz35_2
            try clear hcz35_3
            try clear hcz35_4
            try clear hcz37_0
            try clear hcz37_1
            try clear hcz37_2
            try clear hcz37_3
            try clear hcz37_4
            try clear hcz42_0
            try clear hcz42_1
            try clear hcz42_2
            try clear hcz42_3
            try clear hcz42_4
            try clear hcz46_0
            try clear hcz46_1
            try clear hcz46_2
            try clear hcz46_3
            try clear hcz46_4
            try clear hcz7_0
            try clear hcz7_1
            try clear hcz7_2
            try clear hcz7_3
            try clear hcz7_4
            try clear hcz8_0
            try clear hcz8_1
            try clear hcz8_2
            try clear hcz8_3
            try clear hcz8_4
            try clear hfz14_0
            try clear hfz14_1
            try clear hfz14_2
            try clear hfz14_3
            try clear hfz14_4
            try clear hfz20_0
            try clear hfz20_1
            try clear hfz20_2
            try clear hfz20_3
            try clear hfz20_4
            try clear hfz22_0
            try clear hfz22_1
            try clear hfz22_2
            try clear hfz22_3
            try clear hfz22_4
            try clear hfz29_0
            try clear hfz29_1
            try clear hfz29_2
            try clear hfz29_3
            try clear hfz29_4
            try clear hfz35_0
            try clear hfz35_1
            try clear hfz35_2
            try clear hfz35_3
            try clear hfz35_4
            try clear hfz37_0
            try clear hfz37_1
            try clear hfz37_2
            try clear hfz37_3
            try clear hfz37_4
            try clear hfz42_0
            try clear hfz42_1
            try clear hfz42_2
            try clear hfz42_3
            try clear hfz42_4
            try clear hfz46_0
            try clear hfz46_1
            try clear hfz46_2
            try clear hfz46_3
            try clear hfz46_4
            try clear hfz7_0
            try clear hfz7_1
            try clear hfz7_2
            try clear hfz7_3
            try clear hfz7_4
            try clear hfz8_0
            try clear hfz8_1
            try clear hfz8_2
            try clear hfz8_3
            try clear hfz8_4
            try clear hx111_0
            try clear hx115_0
            try clear p1
            try clear p11
            try clear p111
            try clear p115
            try clear p2
            try clear p6
            try clear q1
            try clear q11
            try clear q111
            try clear q115
            obtain ⟨kq, x73_37, rfl, HA, HJ37, HO_111003, HO_111004, BK109, BK110, HB⟩ := hcut
            cases kq with
            | zero => exact absurd HA.out (by simp [tarnlaw11_Near.j4])
            | succ kj37 =>
              have H := HA.out
              clear HA
              simp only [tarnlaw11_Near.j4] at H
              have HC49 := Aside0.mk H
              clear H
              go_upto_if 73 with (fail)
              go_cut [] (fun wc => ∃ (kq : Nat) (x111003_48 : List Int) (x111004_48 : List Int) (u111003 : Value) (u111004 : Value), Aside0 (tarnlaw11_Near.j5 kq a1 a0_0 a0_1 a0_2 l0_3 l0_4 (Go.bits .and .i64 a0_0 31) (wrap64 (5 + (Go.bits .and .i64 a0_1 1))) (wrap64 ((Go.bits .and .i64 a0_2 31) + 1)) x111003_48 x111004_48 = some (r1, r2, r3, r4, r5)) ∧ Aside0 (kq ≤ kj37) ∧ Aside0 (Kd.R (Kd.int .i64) 3 wc w.heap.size (fun k_ => some k_ ≠ (u111004 : Value).ownBlock) u111003 x111003_48) ∧ Aside0 (Kd.R (Kd.int .i64) 3 wc w.heap.size (fun k_ => some k_ ≠ (u111003 : Value).ownBlock) u111004 x111004_48) ∧ Aside0 (wc.heap[gb109]? = some (.cells #[.int .i64 a0_0, .int .i64 a0_1, .int .i64 a0_2, (.slice A0_3 l0_3.length c0_3), (.slice A0_4 l0_4.length c0_4)] 24 (0, 0))) ∧ Aside0 (wc.heap[gb110]? = some (.cells #[.int .i64 (Go.bits .and .i64 a0_0 31), .int .i64 (wrap64 (5 + (Go.bits .and .i64 a0_1 1))), .int .i64 (wrap64 ((Go.bits .and .i64 a0_2 31) + 1)), u111003, u111004] 24 (0, 0))) ∧ Aside0 (Below w.heap.size w wc))
              case first =>
                have H := HC49.out
                clear HC49
                by_cases c50 : x73_37 = true
                · subst c50
                  have H1 : (tarnlaw11_Near.j5 kj37 a1 a0_0 a0_1 a0_2 l0_3 l0_4 (Go.bits .and .i64 a0_0 31) (wrap64 (5 + (Go.bits .and .i64 a0_1 1))) (wrap64 ((Go.bits .and .i64 a0_2 31) + 1)) (([Go.bits .and .i64 (a0_1 / 2) 3] : List Int)) (([Go.bits .and .i64 (a0_1 / 8) 3, 4] : List Int))) = some (r1, r2, r3, r4, r5) := by rw [if_pos rfl] at H; exact H
                  clear H
                  have H := H1
                  clear H1
                  obtain ⟨y120, hy120⟩ : ∃ y_ : List Int, y_ = (([Go.bits .and .i64 (a0_1 / 2) 3] : List Int)) := ⟨_, rfl⟩
                  replace H : (tarnlaw11_Near.j5 kj37 a1 a0_0 a0_1 a0_2 l0_3 l0_4 (Go.bits .and .i64 a0_0 31) (wrap64 (5 + (Go.bits .and .i64 a0_1 1))) (wrap64 ((Go.bits .and .i64 a0_2 31) + 1)) y120 (([Go.bits .and .i64 (a0_1 / 8) 3, 4] : List Int))) = some (r1, r2, r3, r4, r5) := by first | (rw [hy120]; with_reducible exact H) | (have H2_ := (Option.bind_some _ _).symm.trans H; rw [hy120]; with_reducible exact H2_) | (have H2_ := (Option.bind_some _ _).symm.trans H; with_reducible exact H2_) | with_reducible exact H | (rw [hy120]; exact H) | exact H
                  have Ny120 := Aside0.mk hy120
                  clear hy120
                  obtain ⟨y123, hy123⟩ : ∃ y_ : List Int, y_ = (([Go.bits .and .i64 (a0_1 / 8) 3, 4] : List Int)) := ⟨_, rfl⟩
                  replace H : (tarnlaw11_Near.j5 kj37 a1 a0_0 a0_1 a0_2 l0_3 l0_4 (Go.bits .and .i64 a0_0 31) (wrap64 (5 + (Go.bits .and .i64 a0_1 1))) (wrap64 ((Go.bits .and .i64 a0_2 31) + 1)) y120 y123) = some (r1, r2, r3, r4, r5) := by first | (rw [hy123]; with_reducible exact H) | (have H2_ := (Option.bind_some _ _).symm.trans H; rw [hy123]; with_reducible exact H2_) | (have H2_ := (Option.bind_some _ _).symm.trans H; with_reducible exact H2_) | with_reducible exact H | (rw [hy123]; exact H) | exact H
                  have Ny123 := Aside0.mk hy123
                  clear hy123
                  have H' := Aside0.mk H
                  clear H
                  try go_wp2
                  have n0_ := Aside0.mk (Kd.R_drew HO_111003.out)
                  have n1_ := Aside0.mk (Kd.R_drew HO_111004.out)
                  have n2_ := Aside0.mk (blk_drew BK109.out)
                  have n3_ := Aside0.mk (blk_drew BK110.out)
                  have n4_ := Aside0.mk (below_drew1 HB.out)
                  clear HO_111003
                  clear HO_111004
                  clear BK109
                  clear BK110
                  clear HB
                  have HO_111003 := n0_
                  have HO_111004 := n1_
                  have BK109 := n2_
                  have BK110 := n3_
                  have HB := n4_
                  clear n0_ n1_ n2_ n3_ n4_
                  refine start_ (n := 14) (S := fun w' => True) (ds := []) #[false, false, false, false, false, false, false, false, false, false, false, false, false, false] (by kernel_rfl) rfl rfl trivial (fun hHeld => ?_); refine with_tabW tarnlaw11_Near.tab11 tarnlaw11_Near.bits11 (fun HT_ HW_ => ?_)
                  generalize wc.drew = w51 at HO_111003 HO_111004 BK109 BK110 HB hHeld ⊢
                  refine pure_ (i := 0) (N := some 74) (v := ?_) (a' := ?_) #[true, false, false, false, false, false, false, false, false, false, false, false, false, false] rfl rfl (any_of HT_.out (by kernel_rfl)) (fun _ _ _ h => h) (Or.inl ⟨by rfl, ?_⟩) ?_ ?_
                  rotate_left
                  · first | (intro w'; go_simp; with_reducible rfl) | (intro w'; refine Eq.trans (add_step (by rfl) (by rfl) (by rfl) (by assumption) w') ?_; with_reducible rfl) | (intro w'; refine Eq.trans (cut_hi_n Try.underlying9 (by rfl) (by rfl) (by rfl) (by first | assumption | exact of_eq_true (by assumption) | exact of_decide_eq_true (by assumption) | omega) w') ?_; with_reducible rfl) | (intro w'; refine Eq.trans (cut_hi Try.underlying9 (by rfl) (by rfl) (by rfl) (by first | assumption | exact of_eq_true (by assumption) | exact of_decide_eq_true (by assumption) | omega) (by first | assumption | exact of_eq_true (by assumption) | exact of_decide_eq_true (by assumption) | omega) w') ?_; with_reducible rfl) | (intro w'; refine Eq.trans (cut_lo Try.underlying9 (by rfl) (by rfl) (by rfl) (by first | assumption | exact of_eq_true (by assumption) | exact of_decide_eq_true (by assumption) | omega) (by first | assumption | exact of_eq_true (by assumption) | exact of_decide_eq_true (by assumption) | omega) w') ?_; with_reducible rfl) | (intro w'; refine Eq.trans (cut_both Try.underlying9 (by rfl) (by rfl) (by rfl) (by rfl) (by first | assumption | exact of_eq_true (by assumption) | exact of_decide_eq_true (by assumption) | omega) (by first | assumption | exact of_eq_true (by assumption) | exact of_decide_eq_true (by assumption) | omega) (by first | assumption | exact of_eq_true (by assumption) | exact of_decide_eq_true (by assumption) | omega) w') ?_; with_reducible rfl)
                  rotate_left
                  · simp only [Act.put, List.setIfInBounds_toArray, List.set_cons_zero, List.set_cons_succ, i64_w, i32_w]
                    rfl
                  refine pure_ (i := 5) (N := some 79) (v := ?_) (a' := ?_) #[true, false, false, false, false, true, false, false, false, false, false, false, false, false] rfl rfl (any_of HT_.out (by kernel_rfl)) (fun _ _ _ h => h) (Or.inl ⟨by rfl, ?_⟩) ?_ ?_
                  rotate_left
                  · first | (intro w'; go_simp; with_reducible rfl) | (intro w'; refine Eq.trans (add_step (by rfl) (by rfl) (by rfl) (by assumption) w') ?_; with_reducible rfl) | (intro w'; refine Eq.trans (cut_hi_n Try.underlying9 (by rfl) (by rfl) (by rfl) (by first | assumption | exact of_eq_true (by assumption) | exact of_decide_eq_true (by assumption) | omega) w') ?_; with_reducible rfl) | (intro w'; refine Eq.trans (cut_hi Try.underlying9 (by rfl) (by rfl) (by rfl) (by first | assumption | exact of_eq_true (by assumption) | exact of_decide_eq_true (by assumption) | omega) (by first | assumption | exact of_eq_true (by assumption) | exact of_decide_eq_true (by assumption) | omega) w') ?_; with_reducible rfl) | (intro w'; refine Eq.trans (cut_lo Try.underlying9 (by rfl) (by rfl) (by rfl) (by first | assumption | exact of_eq_true (by assumption) | exact of_decide_eq_true (by assumption) | omega) (by first | assumption | exact of_eq_true (by assumption) | exact of_decide_eq_true (by assumption) | omega) w') ?_; with_reducible rfl) | (intro w'; refine Eq.trans (cut_both Try.underlying9 (by rfl) (by rfl) (by rfl) (by rfl) (by first | assumption | exact of_eq_true (by assumption) | exact of_decide_eq_true (by assumption) | omega) (by first | assumption | exact of_eq_true (by assumption) | exact of_decide_eq_true (by assumption) | omega) (by first | assumption | exact of_eq_true (by assumption) | exact of_decide_eq_true (by assumption) | omega) w') ?_; with_reducible rfl)
                  rotate_left
                  · simp only [Act.put, List.setIfInBounds_toArray, List.set_cons_zero, List.set_cons_succ, i64_w, i32_w]
                    rfl
                  refine inv_at [1, 2, 3, 4, 6, 7, 8, 9, 10, 11, 12, 13] (fun a0_ b a w' => ∃ (v121 : Value) (v124 : Value), a = putSel a0_ b [(1, 75, .int .i64 a0_1), (2, 76, .int .i64 (a0_1 / 2)), (3, 77, .int .i64 (Go.bits .and .i64 (a0_1 / 2) 3)), (4, 78, v121), (6, 80, .int .i64 a0_1), (7, 81, .int .i64 (a0_1 / 8)), (8, 82, .int .i64 (Go.bits .and .i64 (a0_1 / 8) 3)), (9, 83, v124), (10, 84, .pointer (some ⟨gb110, 3, none⟩)), (12, 85, .pointer (some ⟨gb110, 4, none⟩))] ∧ (Kd.R (Kd.int .i64) 3 w' w.heap.size (fun k_ => some k_ ≠ (u111004 : Value).ownBlock) u111003 x111003_2) ∧ (Kd.R (Kd.int .i64) 3 w' w.heap.size (fun k_ => some k_ ≠ (u111003 : Value).ownBlock) u111004 x111004_22) ∧ (w'.heap[gb109]? = some (.cells #[.int .i64 a0_0, .int .i64 a0_1, .int .i64 a0_2, .slice A0_3 l0_3.length c0_3, .slice A0_4 l0_4.length c0_4] 24 (0, 0))) ∧ (b 11 = false → w'.heap[gb110]? = some (.cells #[.int .i64 (Go.bits .and .i64 a0_0 31), .int .i64 (wrap64 (5 + (Go.bits .and .i64 a0_1 1))), .int .i64 (wrap64 ((Go.bits .and .i64 a0_2 31) + 1)), u111003, u111004] 24 (0, 0))) ∧ (Below w.heap.size w w') ∧ (b 4 = true → Kd.R (Kd.int .i64) 3 w' w.heap.size (fun k_ => some k_ ≠ (u111003 : Value).ownBlock ∧ some k_ ≠ (u111004 : Value).ownBlock) v121 y120) ∧ (b 9 = true → Kd.R (Kd.int .i64) 3 w' w.heap.size (fun k_ => some k_ ≠ (u111003 : Value).ownBlock ∧ some k_ ≠ (u111004 : Value).ownBlock) v124 y123) ∧ (b 11 = true → b 13 = false → w'.heap[gb110]? = some (.cells #[.int .i64 (Go.bits .and .i64 a0_0 31), .int .i64 (wrap64 (5 + (Go.bits .and .i64 a0_1 1))), .int .i64 (wrap64 ((Go.bits .and .i64 a0_2 31) + 1)), v121, u111004] 24 (0, 0))) ∧ (b 13 = true → w'.heap[gb110]? = some (.cells #[.int .i64 (Go.bits .and .i64 a0_0 31), .int .i64 (wrap64 (5 + (Go.bits .and .i64 a0_1 1))), .int .i64 (wrap64 ((Go.bits .and .i64 a0_2 31) + 1)), v121, v124] 24 (0, 0))) ∧ (b 4 = true → b 9 = true → NeRow v121 v124)) HT_.out HW_.out (by kernel_rfl) (by kernel_rfl) ?_ ?_ ?_
                  · exact ⟨.bool false, .bool false, by simp only [putSel, Bool.false_eq_true, if_false], HO_111003.out, HO_111004.out, BK109.out, fun _ => BK110.out, HB.out, fun h_ => absurd h_ (by decide), fun h_ => absurd h_ (by decide), fun h_ => absurd h_ (by decide), fun h_ => absurd h_ (by decide), fun h_ => absurd h_ (by decide)⟩
                  · skip
                    clear BK109 BK110 HB HO_111003 HO_111004
                    refine steps_cons ?_ ?_
                    · rintro b a w' ⟨v121, v124, ha, Q_HO_111003, Q_HO_111004, Q_BK109, Q_BK110, Q_HB, Q_HO122, Q_HO125, Q_BK110_e11, Q_BK110_e13, Q_NE⟩ hb_ hon hoff
                      refine ⟨_, rfl, fun K hK => ?_⟩
                      have e74 : a.tmps[74]? = some (.pointer (some ⟨gb109, 1, none⟩)) := by rw [ha]; exact (putSel_off rfl).trans rfl
                      replace ha := Aside0.mk ha
                      have HO_111003 := Aside0.mk Q_HO_111003
                      have HO_111004 := Aside0.mk Q_HO_111004
                      have BK109 := Aside0.mk Q_BK109
                      have BK110 := Aside0.mk (Q_BK110 (hoff 11 (by kernel_rfl)))
                      have HB := Aside0.mk Q_HB
                      have hc0_ : w'.cell? ⟨gb109, 0, none⟩ = some (.int .i64 a0_0) := (blk_cell BK109.out 0).trans rfl
                      have hc1_ : w'.cell? ⟨gb109, 1, none⟩ = some (.int .i64 a0_1) := (blk_cell BK109.out 1).trans rfl
                      have hc2_ : w'.cell? ⟨gb109, 2, none⟩ = some (.int .i64 a0_2) := (blk_cell BK109.out 2).trans rfl
                      have hc3_ : w'.cell? ⟨gb109, 3, none⟩ = some (.slice A0_3 l0_3.length c0_3) := (blk_cell BK109.out 3).trans rfl
                      have hc4_ : w'.cell? ⟨gb109, 4, none⟩ = some (.slice A0_4 l0_4.length c0_4) := (blk_cell BK109.out 4).trans rfl
                      refine value_ (w1 := w') (v := .int .i64 a0_1) (by rfl) rfl ?_ ?_
                      · go_simp
                        (try simp only [i64_w])
                        try rfl
                      refine hK.out _ _ ⟨v121, v124, (by rw [ha.out]; exact putSel_upk 0 hb_ rfl rfl rfl), Q_HO_111003, Q_HO_111004, Q_BK109, Q_BK110, Q_HB, fun h0_ => absurd ((hoff 4 (by kernel_rfl)).symm.trans h0_) (by decide), Q_HO125, fun h0_ _ => absurd ((hoff 11 (by kernel_rfl)).symm.trans h0_) (by decide), fun h0_ => absurd ((hoff 13 (by kernel_rfl)).symm.trans h0_) (by decide), Q_NE⟩
                    refine steps_cons ?_ ?_
                    · rintro b a w' ⟨v121, v124, ha, Q_HO_111003, Q_HO_111004, Q_BK109, Q_BK110, Q_HB, Q_HO122, Q_HO125, Q_BK110_e11, Q_BK110_e13, Q_NE⟩ hb_ hon hoff
                      refine ⟨_, rfl, fun K hK => ?_⟩
                      have e75 : a.tmps[75]? = some (.int .i64 a0_1) := by rw [ha]; exact putSel_on (e := (1, 75, .int .i64 a0_1)) 0 rfl rfl (hon 1 (by kernel_rfl)) rfl
                      replace ha := Aside0.mk ha
                      have HO_111003 := Aside0.mk Q_HO_111003
                      have HO_111004 := Aside0.mk Q_HO_111004
                      have BK109 := Aside0.mk Q_BK109
                      have BK110 := Aside0.mk (Q_BK110 (hoff 11 (by kernel_rfl)))
                      have HB := Aside0.mk Q_HB
                      refine value_ (w1 := w') (v := .int .i64 (a0_1 / 2)) (by rfl) rfl ?_ ?_
                      · go_simp
                        (try simp only [i64_w])
                        try rfl
                      refine hK.out _ _ ⟨v121, v124, (by rw [ha.out]; exact putSel_upk 1 hb_ rfl rfl rfl), Q_HO_111003, Q_HO_111004, Q_BK109, Q_BK110, Q_HB, fun h0_ => absurd ((hoff 4 (by kernel_rfl)).symm.trans h0_) (by decide), Q_HO125, fun h0_ _ => absurd ((hoff 11 (by kernel_rfl)).symm.trans h0_) (by decide), fun h0_ => absurd ((hoff 13 (by kernel_rfl)).symm.trans h0_) (by decide), Q_NE⟩
                    refine steps_cons ?_ ?_
                    · rintro b a w' ⟨v121, v124, ha, Q_HO_111003, Q_HO_111004, Q_BK109, Q_BK110, Q_HB, Q_HO122, Q_HO125, Q_BK110_e11, Q_BK110_e13, Q_NE⟩ hb_ hon hoff
                      refine ⟨_, rfl, fun K hK => ?_⟩
                      have e76 : a.tmps[76]? = some (.int .i64 (a0_1 / 2)) := by rw [ha]; exact putSel_on (e := (2, 76, .int .i64 (a0_1 / 2))) 1 rfl rfl (hon 2 (by kernel_rfl)) rfl
                      replace ha := Aside0.mk ha
                      have HO_111003 := Aside0.mk Q_HO_111003
                      have HO_111004 := Aside0.mk Q_HO_111004
                      have BK109 := Aside0.mk Q_BK109
                      have BK110 := Aside0.mk (Q_BK110 (hoff 11 (by kernel_rfl)))
                      have HB := Aside0.mk Q_HB
                      refine value_ (w1 := w') (v := .int .i64 (Go.bits .and .i64 (a0_1 / 2) 3)) (by rfl) rfl ?_ ?_
                      · go_simp
                        (try simp only [i64_w])
                        try rfl
                      refine hK.out _ _ ⟨v121, v124, (by rw [ha.out]; exact putSel_upk 2 hb_ rfl rfl rfl), Q_HO_111003, Q_HO_111004, Q_BK109, Q_BK110, Q_HB, fun h0_ => absurd ((hoff 4 (by kernel_rfl)).symm.trans h0_) (by decide), Q_HO125, fun h0_ _ => absurd ((hoff 11 (by kernel_rfl)).symm.trans h0_) (by decide), fun h0_ => absurd ((hoff 13 (by kernel_rfl)).symm.trans h0_) (by decide), Q_NE⟩
                    refine steps_cons ?_ ?_
                    · rintro b a w' ⟨v121, v124, ha, Q_HO_111003, Q_HO_111004, Q_BK109, Q_BK110, Q_HB, Q_HO122, Q_HO125, Q_BK110_e11, Q_BK110_e13, Q_NE⟩ hb_ hon hoff
                      refine ⟨_, rfl, fun K hK => ?_⟩
                      have e77 : a.tmps[77]? = some (.int .i64 (Go.bits .and .i64 (a0_1 / 2) 3)) := by rw [ha]; exact putSel_on (e := (3, 77, .int .i64 (Go.bits .and .i64 (a0_1 / 2) 3))) 2 rfl rfl (hon 3 (by kernel_rfl)) rfl
                      replace ha := Aside0.mk ha
                      have HO_111003 := Aside0.mk Q_HO_111003
                      have HO_111004 := Aside0.mk Q_HO_111004
                      have BK109 := Aside0.mk Q_BK109
                      have BK110 := Aside0.mk (Q_BK110 (hoff 11 (by kernel_rfl)))
                      have HB := Aside0.mk Q_HB
                      refine Kd.R_lit_step (Kd.int .i64) _ 3 ?hg (N := 78) ?hd (xs := ([Go.bits .and .i64 (a0_1 / 2) 3] : List Int)) (inner := [.int .i64 (Go.bits .and .i64 (a0_1 / 2) 3)]) (ok := fun _ => True) (okp := fun _ => True) ?hr ?hp (fun _ hk => hk) trivial (Below.refl _ _) (Nat.le_refl _) (by simp) ?_; (case hd => rfl); (case hg => rfl); (case hr => first | (go_simp; done) | (go_simp; rfl)); (case hp => exact (Reps.one (show Kd.M (Kd.int .i64) _ _ _ (Go.bits .and .i64 (a0_1 / 2) 3) [.int .i64 (Go.bits .and .i64 (a0_1 / 2) 3)] from rfl) (Reps.none _ _)))
                      intro v121 w52 ho53 hb hg_ hnew_
                      have z_NE := fun (h9_ : b 9 = true) => (show NeRow v121 v124 from fun k hk he => by have a_ := Kd.R_base ho53 k hk; have b_ := Kd.R_lt (Q_HO125 h9_) k he; omega)
                      clear hg_ hnew_
                      (first | rw [← Ny120.out] at ho53 | (simp only [Int.reduceToNat] at ho53; rw [← Ny120.out] at ho53))
                      have n0_ := Aside0.mk (Kd.R_elder' (by (with_reducible repeat (first | apply Kd.R_alloc | apply Kd.R_drewN | apply Kd.R_drew)); exact HO_111003.out) (Kd.R_base ho53) hb)
                      have n1_ := Aside0.mk (Kd.R_elder' (by (with_reducible repeat (first | apply Kd.R_alloc | apply Kd.R_drewN | apply Kd.R_drew)); exact HO_111004.out) (Kd.R_base ho53) hb)
                      have n2_ := Aside0.mk (Kd.R_lower (Kd.R_new' (Kd.R_new' ho53 (Kd.R_lt (by (with_reducible repeat (first | apply Kd.R_alloc | apply Kd.R_drewN | apply Kd.R_drew)); exact HO_111003.out))) (Kd.R_lt (by (with_reducible repeat (first | apply Kd.R_alloc | apply Kd.R_drewN | apply Kd.R_drew)); exact HO_111004.out))) (below_size (by repeat (first | (with_reducible first | exact HB.out | apply below_alloc | apply pw_below_drewN | apply below_drew1 | refine below_set ?_ GE109.out | refine below_set ?_ GE110.out) | exact HB.out))))
                      have n3_ := Aside0.mk (blk_below (g := gb109) (o := .cells #[.int .i64 a0_0, .int .i64 a0_1, .int .i64 a0_2, .slice A0_3 l0_3.length c0_3, .slice A0_4 l0_4.length c0_4] 24 (0, 0)) (by (with_reducible repeat (first | refine blk_drewN ?_ _ | refine blk_drew ?_ | refine blk_alloc ?_ _)); exact BK109.out) hb)
                      have n4_ := Aside0.mk (blk_below (g := gb110) (o := .cells #[.int .i64 (Go.bits .and .i64 a0_0 31), .int .i64 (wrap64 (5 + (Go.bits .and .i64 a0_1 1))), .int .i64 (wrap64 ((Go.bits .and .i64 a0_2 31) + 1)), u111003, u111004] 24 (0, 0)) (by (with_reducible repeat (first | refine blk_drewN ?_ _ | refine blk_drew ?_ | refine blk_alloc ?_ _)); exact BK110.out) hb)
                      have n5_ := Aside0.mk (below_step (by repeat (first | (with_reducible first | exact HB.out | apply below_alloc | apply pw_below_drewN | apply below_drew1 | refine below_set ?_ GE109.out | refine below_set ?_ GE110.out) | exact HB.out)) hb)
                      have z_HO125 := fun (h0_ : b 9 = true) => (show Kd.R (Kd.int .i64) 3 w52 w.heap.size (fun k_ => some k_ ≠ (u111003 : Value).ownBlock ∧ some k_ ≠ (u111004 : Value).ownBlock) v124 y123 from by first | exact (Kd.R_elder' (by (with_reducible repeat (first | apply Kd.R_alloc | apply Kd.R_drewN | apply Kd.R_drew)); exact (Q_HO125 h0_)) (Kd.R_base ho53) hb) | exact Kd.R_mono (Kd.R_elder' (by (with_reducible repeat (first | apply Kd.R_alloc | apply Kd.R_drewN | apply Kd.R_drew)); exact (Q_HO125 h0_)) (Kd.R_base ho53) hb) (fun _ h_ => by first | trivial | exact h_ | exact h_.1))
                      clear HO_111003
                      clear HO_111004
                      clear BK109
                      clear BK110
                      clear HB
                      have HO_111003 := n0_
                      have HO_111004 := n1_
                      have HO122 := n2_
                      have BK109 := n3_
                      have BK110 := n4_
                      have HB := n5_
                      clear n0_ n1_ n2_ n3_ n4_ n5_
                      clear hb ho53
                      refine hK.out _ _ ⟨v121, v124, (by rw [ha.out]; exact putSel_upk 3 hb_ rfl rfl rfl), (by (with_reducible repeat (first | apply Kd.R_alloc | apply Kd.R_drewN | apply Kd.R_drew)); exact Kd.R_mono HO_111003.out (fun _ hk => by first | exact ⟨hk.2, hk.1⟩ | exact hk | exact hk.1 | exact hk.2 | exact hk.1.1 | exact hk.1.2 | exact ⟨hk.1.1, hk.1.2⟩ | exact ⟨hk.1.2, hk.2⟩)), (by (with_reducible repeat (first | apply Kd.R_alloc | apply Kd.R_drewN | apply Kd.R_drew)); exact Kd.R_mono HO_111004.out (fun _ hk => by first | exact ⟨hk.2, hk.1⟩ | exact hk | exact hk.1 | exact hk.2 | exact hk.1.1 | exact hk.1.2 | exact ⟨hk.1.1, hk.1.2⟩ | exact ⟨hk.1.2, hk.2⟩)), (by (with_reducible repeat (first | refine blk_drewN ?_ _ | refine blk_drew ?_ | refine blk_alloc ?_ _)); exact BK109.out), fun _ => (by (with_reducible repeat (first | refine blk_drewN ?_ _ | refine blk_drew ?_ | refine blk_alloc ?_ _)); exact BK110.out), (by repeat (first | (with_reducible first | exact HB.out | apply below_alloc | apply pw_below_drewN | apply below_drew1 | refine below_set ?_ GE109.out | refine below_set ?_ GE110.out) | exact HB.out)), fun _ => (by (with_reducible repeat (first | apply Kd.R_alloc | apply Kd.R_drewN | apply Kd.R_drew)); exact Kd.R_mono HO122.out (fun _ hk => ⟨hk.1.2, hk.2⟩)), z_HO125, fun h0_ _ => absurd ((hoff 11 (by kernel_rfl)).symm.trans h0_) (by decide), fun h0_ => absurd ((hoff 13 (by kernel_rfl)).symm.trans h0_) (by decide), fun _ h9_ => z_NE h9_⟩
                    refine steps_cons ?_ ?_
                    · rintro b a w' ⟨v121, v124, ha, Q_HO_111003, Q_HO_111004, Q_BK109, Q_BK110, Q_HB, Q_HO122, Q_HO125, Q_BK110_e11, Q_BK110_e13, Q_NE⟩ hb_ hon hoff
                      refine ⟨_, rfl, fun K hK => ?_⟩
                      have e79 : a.tmps[79]? = some (.pointer (some ⟨gb109, 1, none⟩)) := by rw [ha]; exact (putSel_off rfl).trans rfl
                      replace ha := Aside0.mk ha
                      have HO_111003 := Aside0.mk Q_HO_111003
                      have HO_111004 := Aside0.mk Q_HO_111004
                      have BK109 := Aside0.mk Q_BK109
                      have HB := Aside0.mk Q_HB
                      have hc0_ : w'.cell? ⟨gb109, 0, none⟩ = some (.int .i64 a0_0) := (blk_cell BK109.out 0).trans rfl
                      have hc1_ : w'.cell? ⟨gb109, 1, none⟩ = some (.int .i64 a0_1) := (blk_cell BK109.out 1).trans rfl
                      have hc2_ : w'.cell? ⟨gb109, 2, none⟩ = some (.int .i64 a0_2) := (blk_cell BK109.out 2).trans rfl
                      have hc3_ : w'.cell? ⟨gb109, 3, none⟩ = some (.slice A0_3 l0_3.length c0_3) := (blk_cell BK109.out 3).trans rfl
                      have hc4_ : w'.cell? ⟨gb109, 4, none⟩ = some (.slice A0_4 l0_4.length c0_4) := (blk_cell BK109.out 4).trans rfl
                      refine value_ (w1 := w') (v := .int .i64 a0_1) (by rfl) rfl ?_ ?_
                      · go_simp
                        (try simp only [i64_w])
                        try rfl
                      refine hK.out _ _ ⟨v121, v124, (by rw [ha.out]; exact putSel_upk 4 hb_ rfl rfl rfl), Q_HO_111003, Q_HO_111004, Q_BK109, Q_BK110, Q_HB, Q_HO122, fun h0_ => absurd ((hoff 9 (by kernel_rfl)).symm.trans h0_) (by decide), Q_BK110_e11, fun h0_ => absurd ((hoff 13 (by kernel_rfl)).symm.trans h0_) (by decide), Q_NE⟩
                    refine steps_cons ?_ ?_
                    · rintro b a w' ⟨v121, v124, ha, Q_HO_111003, Q_HO_111004, Q_BK109, Q_BK110, Q_HB, Q_HO122, Q_HO125, Q_BK110_e11, Q_BK110_e13, Q_NE⟩ hb_ hon hoff
                      refine ⟨_, rfl, fun K hK => ?_⟩
                      have e80 : a.tmps[80]? = some (.int .i64 a0_1) := by rw [ha]; exact putSel_on (e := (6, 80, .int .i64 a0_1)) 4 rfl rfl (hon 6 (by kernel_rfl)) rfl
                      replace ha := Aside0.mk ha
                      have HO_111003 := Aside0.mk Q_HO_111003
                      have HO_111004 := Aside0.mk Q_HO_111004
                      have BK109 := Aside0.mk Q_BK109
                      have HB := Aside0.mk Q_HB
                      refine value_ (w1 := w') (v := .int .i64 (a0_1 / 8)) (by rfl) rfl ?_ ?_
                      · go_simp
                        (try simp only [i64_w])
                        try rfl
                      refine hK.out _ _ ⟨v121, v124, (by rw [ha.out]; exact putSel_upk 5 hb_ rfl rfl rfl), Q_HO_111003, Q_HO_111004, Q_BK109, Q_BK110, Q_HB, Q_HO122, fun h0_ => absurd ((hoff 9 (by kernel_rfl)).symm.trans h0_) (by decide), Q_BK110_e11, fun h0_ => absurd ((hoff 13 (by kernel_rfl)).symm.trans h0_) (by decide), Q_NE⟩
                    refine steps_cons ?_ ?_
                    · rintro b a w' ⟨v121, v124, ha, Q_HO_111003, Q_HO_111004, Q_BK109, Q_BK110, Q_HB, Q_HO122, Q_HO125, Q_BK110_e11, Q_BK110_e13, Q_NE⟩ hb_ hon hoff
                      refine ⟨_, rfl, fun K hK => ?_⟩
                      have e81 : a.tmps[81]? = some (.int .i64 (a0_1 / 8)) := by rw [ha]; exact putSel_on (e := (7, 81, .int .i64 (a0_1 / 8))) 5 rfl rfl (hon 7 (by kernel_rfl)) rfl
                      replace ha := Aside0.mk ha
                      have HO_111003 := Aside0.mk Q_HO_111003
                      have HO_111004 := Aside0.mk Q_HO_111004
                      have BK109 := Aside0.mk Q_BK109
                      have HB := Aside0.mk Q_HB
                      refine value_ (w1 := w') (v := .int .i64 (Go.bits .and .i64 (a0_1 / 8) 3)) (by rfl) rfl ?_ ?_
                      · go_simp
                        (try simp only [i64_w])
                        try rfl
                      refine hK.out _ _ ⟨v121, v124, (by rw [ha.out]; exact putSel_upk 6 hb_ rfl rfl rfl), Q_HO_111003, Q_HO_111004, Q_BK109, Q_BK110, Q_HB, Q_HO122, fun h0_ => absurd ((hoff 9 (by kernel_rfl)).symm.trans h0_) (by decide), Q_BK110_e11, fun h0_ => absurd ((hoff 13 (by kernel_rfl)).symm.trans h0_) (by decide), Q_NE⟩
                    refine steps_cons ?_ ?_
                    · rintro b a w' ⟨v121, v124, ha, Q_HO_111003, Q_HO_111004, Q_BK109, Q_BK110, Q_HB, Q_HO122, Q_HO125, Q_BK110_e11, Q_BK110_e13, Q_NE⟩ hb_ hon hoff
                      refine ⟨_, rfl, fun K hK => ?_⟩
                      have e82 : a.tmps[82]? = some (.int .i64 (Go.bits .and .i64 (a0_1 / 8) 3)) := by rw [ha]; exact putSel_on (e := (8, 82, .int .i64 (Go.bits .and .i64 (a0_1 / 8) 3))) 6 rfl rfl (hon 8 (by kernel_rfl)) rfl
                      replace ha := Aside0.mk ha
                      have HO_111003 := Aside0.mk Q_HO_111003
                      have HO_111004 := Aside0.mk Q_HO_111004
                      have BK109 := Aside0.mk Q_BK109
                      have HB := Aside0.mk Q_HB
                      refine Kd.R_lit_step (Kd.int .i64) _ 3 ?hg (N := 83) ?hd (xs := ([Go.bits .and .i64 (a0_1 / 8) 3, 4] : List Int)) (inner := [.int .i64 (Go.bits .and .i64 (a0_1 / 8) 3), .int .i64 4]) (ok := fun _ => True) (okp := fun _ => True) ?hr ?hp (fun _ hk => hk) trivial (Below.refl _ _) (Nat.le_refl _) (by simp) ?_; (case hd => rfl); (case hg => rfl); (case hr => first | (go_simp; done) | (go_simp; rfl)); (case hp => exact (Reps.one (show Kd.M (Kd.int .i64) _ _ _ (Go.bits .and .i64 (a0_1 / 8) 3) [.int .i64 (Go.bits .and .i64 (a0_1 / 8) 3)] from rfl) (Reps.one (show Kd.M (Kd.int .i64) _ _ _ 4 [.int .i64 4] from rfl) (Reps.none _ _))))
                      intro v124 w52 ho53 hb hg_ hnew_
                      have z_NE := fun (h9_ : b 4 = true) => (show NeRow v121 v124 from fun k hk he => by have a_ := Kd.R_lt (Q_HO122 h9_) k hk; have b_ := Kd.R_base ho53 k he; omega)
                      clear hg_ hnew_
                      (first | rw [← Ny123.out] at ho53 | (simp only [Int.reduceToNat] at ho53; rw [← Ny123.out] at ho53))
                      have n0_ := Aside0.mk (Kd.R_elder' (by (with_reducible repeat (first | apply Kd.R_alloc | apply Kd.R_drewN | apply Kd.R_drew)); exact HO_111003.out) (Kd.R_base ho53) hb)
                      have n1_ := Aside0.mk (Kd.R_elder' (by (with_reducible repeat (first | apply Kd.R_alloc | apply Kd.R_drewN | apply Kd.R_drew)); exact HO_111004.out) (Kd.R_base ho53) hb)
                      have n2_ := Aside0.mk (Kd.R_lower (Kd.R_new' (Kd.R_new' ho53 (Kd.R_lt (by (with_reducible repeat (first | apply Kd.R_alloc | apply Kd.R_drewN | apply Kd.R_drew)); exact HO_111003.out))) (Kd.R_lt (by (with_reducible repeat (first | apply Kd.R_alloc | apply Kd.R_drewN | apply Kd.R_drew)); exact HO_111004.out))) (below_size (by repeat (first | (with_reducible first | exact HB.out | apply below_alloc | apply pw_below_drewN | apply below_drew1 | refine below_set ?_ GE109.out | refine below_set ?_ GE110.out) | exact HB.out))))
                      have n3_ := Aside0.mk (blk_below (g := gb109) (o := .cells #[.int .i64 a0_0, .int .i64 a0_1, .int .i64 a0_2, .slice A0_3 l0_3.length c0_3, .slice A0_4 l0_4.length c0_4] 24 (0, 0)) (by (with_reducible repeat (first | refine blk_drewN ?_ _ | refine blk_drew ?_ | refine blk_alloc ?_ _)); exact BK109.out) hb)
                      have n5_ := Aside0.mk (below_step (by repeat (first | (with_reducible first | exact HB.out | apply below_alloc | apply pw_below_drewN | apply below_drew1 | refine below_set ?_ GE109.out | refine below_set ?_ GE110.out) | exact HB.out)) hb)
                      have z_BK110 := fun (h0_ : b 11 = false) => (show w52.heap[gb110]? = some (.cells #[.int .i64 (Go.bits .and .i64 a0_0 31), .int .i64 (wrap64 (5 + (Go.bits .and .i64 a0_1 1))), .int .i64 (wrap64 ((Go.bits .and .i64 a0_2 31) + 1)), u111003, u111004] 24 (0, 0)) from by first | exact (blk_below (g := gb110) (o := .cells #[.int .i64 (Go.bits .and .i64 a0_0 31), .int .i64 (wrap64 (5 + (Go.bits .and .i64 a0_1 1))), .int .i64 (wrap64 ((Go.bits .and .i64 a0_2 31) + 1)), u111003, u111004] 24 (0, 0)) (by (with_reducible repeat (first | refine blk_drewN ?_ _ | refine blk_drew ?_ | refine blk_alloc ?_ _)); exact (Q_BK110 h0_)) hb))
                      have z_HO122 := fun (h0_ : b 4 = true) => (show Kd.R (Kd.int .i64) 3 w52 w.heap.size (fun k_ => some k_ ≠ (u111003 : Value).ownBlock ∧ some k_ ≠ (u111004 : Value).ownBlock) v121 y120 from by first | exact (Kd.R_elder' (by (with_reducible repeat (first | apply Kd.R_alloc | apply Kd.R_drewN | apply Kd.R_drew)); exact (Q_HO122 h0_)) (Kd.R_base ho53) hb) | exact Kd.R_mono (Kd.R_elder' (by (with_reducible repeat (first | apply Kd.R_alloc | apply Kd.R_drewN | apply Kd.R_drew)); exact (Q_HO122 h0_)) (Kd.R_base ho53) hb) (fun _ h_ => by first | trivial | exact h_ | exact h_.1))
                      have z_BK110_e11 := fun (h0_ : b 11 = true) (h1_ : b 13 = false) => (show w52.heap[gb110]? = some (.cells #[.int .i64 (Go.bits .and .i64 a0_0 31), .int .i64 (wrap64 (5 + (Go.bits .and .i64 a0_1 1))), .int .i64 (wrap64 ((Go.bits .and .i64 a0_2 31) + 1)), v121, u111004] 24 (0, 0)) from by first | exact (blk_below (g := gb110) (o := .cells #[.int .i64 (Go.bits .and .i64 a0_0 31), .int .i64 (wrap64 (5 + (Go.bits .and .i64 a0_1 1))), .int .i64 (wrap64 ((Go.bits .and .i64 a0_2 31) + 1)), v121, u111004] 24 (0, 0)) (by (with_reducible repeat (first | refine blk_drewN ?_ _ | refine blk_drew ?_ | refine blk_alloc ?_ _)); exact (Q_BK110_e11 h0_ h1_)) hb))
                      clear HO_111003
                      clear HO_111004
                      clear BK109
                      clear HB
                      have HO_111003 := n0_
                      have HO_111004 := n1_
                      have HO125 := n2_
                      have BK109 := n3_
                      have HB := n5_
                      clear n0_ n1_ n2_ n3_ n5_
                      clear hb ho53
                      refine hK.out _ _ ⟨v121, v124, (by rw [ha.out]; exact putSel_upk 7 hb_ rfl rfl rfl), (by (with_reducible repeat (first | apply Kd.R_alloc | apply Kd.R_drewN | apply Kd.R_drew)); exact Kd.R_mono HO_111003.out (fun _ hk => by first | exact ⟨hk.2, hk.1⟩ | exact hk | exact hk.1 | exact hk.2 | exact hk.1.1 | exact hk.1.2 | exact ⟨hk.1.1, hk.1.2⟩ | exact ⟨hk.1.2, hk.2⟩)), (by (with_reducible repeat (first | apply Kd.R_alloc | apply Kd.R_drewN | apply Kd.R_drew)); exact Kd.R_mono HO_111004.out (fun _ hk => by first | exact ⟨hk.2, hk.1⟩ | exact hk | exact hk.1 | exact hk.2 | exact hk.1.1 | exact hk.1.2 | exact ⟨hk.1.1, hk.1.2⟩ | exact ⟨hk.1.2, hk.2⟩)), (by (with_reducible repeat (first | refine blk_drewN ?_ _ | refine blk_drew ?_ | refine blk_alloc ?_ _)); exact BK109.out), z_BK110, (by repeat (first | (with_reducible first | exact HB.out | apply below_alloc | apply pw_below_drewN | apply below_drew1 | refine below_set ?_ GE109.out | refine below_set ?_ GE110.out) | exact HB.out)), z_HO122, fun _ => (by (with_reducible repeat (first | apply Kd.R_alloc | apply Kd.R_drewN | apply Kd.R_drew)); exact Kd.R_mono HO125.out (fun _ hk => ⟨hk.1.2, hk.2⟩)), z_BK110_e11, fun h0_ => absurd ((hoff 13 (by kernel_rfl)).symm.trans h0_) (by decide), fun h9_ _ => z_NE h9_⟩
                    refine steps_cons ?_ ?_
                    · rintro b a w' ⟨v121, v124, ha, Q_HO_111003, Q_HO_111004, Q_BK109, Q_BK110, Q_HB, Q_HO122, Q_HO125, Q_BK110_e11, Q_BK110_e13, Q_NE⟩ hb_ hon hoff
                      refine ⟨_, rfl, fun K hK => ?_⟩
                      have e4 : a.tmps[4]? = some (.pointer (some ⟨gb110, 0, none⟩)) := by rw [ha]; exact (putSel_off rfl).trans rfl
                      replace ha := Aside0.mk ha
                      have HO_111003 := Aside0.mk Q_HO_111003
                      have HO_111004 := Aside0.mk Q_HO_111004
                      have BK109 := Aside0.mk Q_BK109
                      have BK110 := Aside0.mk (Q_BK110 (hoff 11 (by kernel_rfl)))
                      have HB := Aside0.mk Q_HB
                      have HO122 := Aside0.mk (Q_HO122 (hon 4 (by kernel_rfl)))
                      refine value_ (w1 := w') (v := .pointer (some ⟨gb110, 3, none⟩)) (by rfl) rfl ?_ ?_
                      · go_simp
                        (try simp only [i64_w])
                        try rfl
                      refine hK.out _ _ ⟨v121, v124, (by rw [ha.out]; exact putSel_upk 8 hb_ rfl rfl rfl), Q_HO_111003, Q_HO_111004, Q_BK109, Q_BK110, Q_HB, Q_HO122, Q_HO125, fun h0_ _ => absurd ((hoff 11 (by kernel_rfl)).symm.trans h0_) (by decide), fun h0_ => absurd ((hoff 13 (by kernel_rfl)).symm.trans h0_) (by decide), Q_NE⟩
                    refine steps_cons ?_ ?_
                    · rintro b a w' ⟨v121, v124, ha, Q_HO_111003, Q_HO_111004, Q_BK109, Q_BK110, Q_HB, Q_HO122, Q_HO125, Q_BK110_e11, Q_BK110_e13, Q_NE⟩ hb_ hon hoff
                      refine ⟨_, rfl, fun K hK => ?_⟩
                      have e84 : a.tmps[84]? = some (.pointer (some ⟨gb110, 3, none⟩)) := by rw [ha]; exact putSel_on (e := (10, 84, .pointer (some ⟨gb110, 3, none⟩))) 8 rfl rfl (hon 10 (by kernel_rfl)) rfl
                      have e78 : a.tmps[78]? = some (v121) := by rw [ha]; exact putSel_on (e := (4, 78, v121)) 3 rfl rfl (hon 4 (by kernel_rfl)) rfl
                      replace ha := Aside0.mk ha
                      have HO_111003 := Aside0.mk Q_HO_111003
                      have HO_111004 := Aside0.mk Q_HO_111004
                      have BK109 := Aside0.mk Q_BK109
                      have BK110 := Aside0.mk (Q_BK110 hb_)
                      have HB := Aside0.mk Q_HB
                      have HO122 := Aside0.mk (Q_HO122 (hon 4 (by kernel_rfl)))
                      obtain ⟨Ao55, co55, eo55⟩ := Kd.R_slice HO122.out
                      (first | subst eo55 | (injection eo55 with f1_ f2_ f3_; have f4_ := f1_.symm; have f5_ := f3_.symm; clear f1_ f2_ f3_; subst f4_; subst f5_))
                      have hs56 : w'.cell? ⟨gb110, 3, none⟩ = some (u111003) := (blk_cell BK110.out 3).trans rfl
                      have hfs56 := blk_frozen BK110.out 3
                      have hns56_0 := NB109_110.out
                      have hms56_0 := NB110_109.out
                      refine skip_ (w1 := ?_) (by rfl) rfl ?_ ?_
                      rotate_left
                      · go_simp
                        rfl
                      refine hK.out _ _ ⟨.slice Ao55 y120.length co55, v124, (by rw [ha.out]; exact putSel_none (v := undef) rfl), (by (with_reducible repeat (first | apply Kd.R_alloc | apply Kd.R_drewN | apply Kd.R_drew)); exact Kd.R_mono (Kd.R_far (p := ⟨gb110, 3, none⟩) (Kd.R_types HO_111003.out BK110.out (by decide)) (fun _ hk => hk.2) _) (fun _ hk => by first | exact ⟨hk.1.1, hk.1.2⟩ | exact hk | exact hk.1 | exact hk.2 | exact hk.1.1 | exact hk.1.2 | exact ⟨hk.1.1, hk.1.2⟩ | exact ⟨hk.1.2, hk.2⟩)), (by (with_reducible repeat (first | apply Kd.R_alloc | apply Kd.R_drewN | apply Kd.R_drew)); exact Kd.R_mono (Kd.R_far (p := ⟨gb110, 3, none⟩) (Kd.R_types HO_111004.out BK110.out (by decide)) (fun _ hk => hk.2) _) (fun _ hk => by first | exact ⟨hk.1.1, hk.1.2⟩ | exact hk | exact hk.1 | exact hk.2 | exact hk.1.1 | exact hk.1.2 | exact ⟨hk.1.1, hk.1.2⟩ | exact ⟨hk.1.2, hk.2⟩)), (by (with_reducible repeat (first | refine blk_drewN ?_ _ | refine blk_drew ?_ | refine blk_alloc ?_ _)); refine blk_far ?_ NB109_110.out _; (with_reducible repeat (first | refine blk_drewN ?_ _ | refine blk_drew ?_ | refine blk_alloc ?_ _)); exact BK109.out), fun h0_ => absurd ((up_self b 11).symm.trans h0_) (by decide), (by repeat (first | (with_reducible first | exact HB.out | apply below_alloc | apply pw_below_drewN | apply below_drew1 | refine below_set ?_ GE109.out | refine below_set ?_ GE110.out) | exact HB.out)), fun _ => (by (with_reducible repeat (first | apply Kd.R_alloc | apply Kd.R_drewN | apply Kd.R_drew)); exact Kd.R_mono (Kd.R_far (p := ⟨gb110, 3, none⟩) (Kd.R_types HO122.out BK110.out (by decide)) (fun _ hk => hk.2) _) (fun _ hk => by first | exact ⟨hk.1.1, hk.1.2⟩ | exact hk | exact hk.1 | exact hk.2 | exact hk.1.1 | exact hk.1.2 | exact ⟨hk.1.1, hk.1.2⟩ | exact ⟨hk.1.2, hk.2⟩)), fun h0_ => (by (with_reducible repeat (first | apply Kd.R_alloc | apply Kd.R_drewN | apply Kd.R_drew)); exact Kd.R_mono (Kd.R_far (p := ⟨gb110, 3, none⟩) (Kd.R_types (Q_HO125 h0_) BK110.out (by decide)) (fun _ hk => hk.2) _) (fun _ hk => by first | exact ⟨hk.1.1, ⟨hk.1.2.1, hk.1.2.2⟩⟩ | exact hk | exact hk.1 | exact hk.2 | exact hk.1.1 | exact hk.1.2 | exact ⟨hk.1.1, hk.1.2⟩ | exact ⟨hk.1.2, hk.2⟩)), fun _ _ => (by (with_reducible repeat (first | refine blk_drewN ?_ _ | refine blk_drew ?_ | refine blk_alloc ?_ _)); refine blk_put (cs := #[.int .i64 (Go.bits .and .i64 a0_0 31), .int .i64 (wrap64 (5 + (Go.bits .and .i64 a0_1 1))), .int .i64 (wrap64 ((Go.bits .and .i64 a0_2 31) + 1)), u111003, u111004]) ?_ 3 _ rfl; (with_reducible repeat (first | refine blk_drewN ?_ _ | refine blk_drew ?_ | refine blk_alloc ?_ _)); exact BK110.out), fun h0_ => absurd ((hoff 13 (by kernel_rfl)).symm.trans h0_) (by decide), Q_NE⟩
                    refine steps_cons ?_ ?_
                    · rintro b a w' ⟨v121, v124, ha, Q_HO_111003, Q_HO_111004, Q_BK109, Q_BK110, Q_HB, Q_HO122, Q_HO125, Q_BK110_e11, Q_BK110_e13, Q_NE⟩ hb_ hon hoff
                      refine ⟨_, rfl, fun K hK => ?_⟩
                      have e4 : a.tmps[4]? = some (.pointer (some ⟨gb110, 0, none⟩)) := by rw [ha]; exact (putSel_off rfl).trans rfl
                      replace ha := Aside0.mk ha
                      have HO_111003 := Aside0.mk Q_HO_111003
                      have HO_111004 := Aside0.mk Q_HO_111004
                      have BK109 := Aside0.mk Q_BK109
                      have HB := Aside0.mk Q_HB
                      have HO122 := Aside0.mk (Q_HO122 (hon 4 (by kernel_rfl)))
                      have HO125 := Aside0.mk (Q_HO125 (hon 9 (by kernel_rfl)))
                      have BK110 := Aside0.mk (Q_BK110_e11 (hon 11 (by kernel_rfl)) (hoff 13 (by kernel_rfl)))
                      refine value_ (w1 := w') (v := .pointer (some ⟨gb110, 4, none⟩)) (by rfl) rfl ?_ ?_
                      · go_simp
                        (try simp only [i64_w])
                        try rfl
                      refine hK.out _ _ ⟨v121, v124, (by rw [ha.out]; exact putSel_upk 9 hb_ rfl rfl rfl), Q_HO_111003, Q_HO_111004, Q_BK109, fun h0_ => absurd ((hon 11 (by kernel_rfl)).symm.trans h0_) (by decide), Q_HB, Q_HO122, Q_HO125, Q_BK110_e11, fun h0_ => absurd ((hoff 13 (by kernel_rfl)).symm.trans h0_) (by decide), Q_NE⟩
                    refine steps_cons ?_ ?_
                    · rintro b a w' ⟨v121, v124, ha, Q_HO_111003, Q_HO_111004, Q_BK109, Q_BK110, Q_HB, Q_HO122, Q_HO125, Q_BK110_e11, Q_BK110_e13, Q_NE⟩ hb_ hon hoff
                      refine ⟨_, rfl, fun K hK => ?_⟩
                      have e85 : a.tmps[85]? = some (.pointer (some ⟨gb110, 4, none⟩)) := by rw [ha]; exact putSel_on (e := (12, 85, .pointer (some ⟨gb110, 4, none⟩))) 9 rfl rfl (hon 12 (by kernel_rfl)) rfl
                      have e83 : a.tmps[83]? = some (v124) := by rw [ha]; exact putSel_on (e := (9, 83, v124)) 7 rfl rfl (hon 9 (by kernel_rfl)) rfl
                      replace ha := Aside0.mk ha
                      have HO_111003 := Aside0.mk Q_HO_111003
                      have HO_111004 := Aside0.mk Q_HO_111004
                      have BK109 := Aside0.mk Q_BK109
                      have HB := Aside0.mk Q_HB
                      have HO122 := Aside0.mk (Q_HO122 (hon 4 (by kernel_rfl)))
                      have HO125 := Aside0.mk (Q_HO125 (hon 9 (by kernel_rfl)))
                      have BK110 := Aside0.mk (Q_BK110_e11 (hon 11 (by kernel_rfl)) hb_)
                      obtain ⟨Ao59, co59, eo59⟩ := Kd.R_slice HO125.out
                      (first | subst eo59 | (injection eo59 with f1_ f2_ f3_; have f4_ := f1_.symm; have f5_ := f3_.symm; clear f1_ f2_ f3_; subst f4_; subst f5_))
                      have hs60 : w'.cell? ⟨gb110, 4, none⟩ = some (u111004) := (blk_cell BK110.out 4).trans rfl
                      have hfs60 := blk_frozen BK110.out 4
                      have hns60_0 := NB109_110.out
                      have hms60_0 := NB110_109.out
                      refine skip_ (w1 := ?_) (by rfl) rfl ?_ ?_
                      rotate_left
                      · go_simp
                        rfl
                      refine hK.out _ _ ⟨v121, .slice Ao59 y123.length co59, (by rw [ha.out]; exact putSel_none (v := undef) rfl), (by (with_reducible repeat (first | apply Kd.R_alloc | apply Kd.R_drewN | apply Kd.R_drew)); exact Kd.R_mono (Kd.R_far (p := ⟨gb110, 4, none⟩) (Kd.R_types HO_111003.out BK110.out (by decide)) (fun _ hk => hk.2) _) (fun _ hk => by first | exact ⟨hk.1.1, ⟨hk.1.2.1, hk.1.2.2⟩⟩ | exact hk | exact hk.1 | exact hk.2 | exact hk.1.1 | exact hk.1.2 | exact ⟨hk.1.1, hk.1.2⟩ | exact ⟨hk.1.2, hk.2⟩)), (by (with_reducible repeat (first | apply Kd.R_alloc | apply Kd.R_drewN | apply Kd.R_drew)); exact Kd.R_mono (Kd.R_far (p := ⟨gb110, 4, none⟩) (Kd.R_types HO_111004.out BK110.out (by decide)) (fun _ hk => hk.2) _) (fun _ hk => by first | exact ⟨hk.1.1, ⟨hk.1.2.1, hk.1.2.2⟩⟩ | exact hk | exact hk.1 | exact hk.2 | exact hk.1.1 | exact hk.1.2 | exact ⟨hk.1.1, hk.1.2⟩ | exact ⟨hk.1.2, hk.2⟩)), (by (with_reducible repeat (first | refine blk_drewN ?_ _ | refine blk_drew ?_ | refine blk_alloc ?_ _)); refine blk_far ?_ NB109_110.out _; (with_reducible repeat (first | refine blk_drewN ?_ _ | refine blk_drew ?_ | refine blk_alloc ?_ _)); exact BK109.out), fun h0_ => absurd ((hon 11 (by kernel_rfl)).symm.trans h0_) (by decide), (by repeat (first | (with_reducible first | exact HB.out | apply below_alloc | apply pw_below_drewN | apply below_drew1 | refine below_set ?_ GE109.out | refine below_set ?_ GE110.out) | exact HB.out)), fun _ => (by (with_reducible repeat (first | apply Kd.R_alloc | apply Kd.R_drewN | apply Kd.R_drew)); exact Kd.R_mono (Kd.R_far (p := ⟨gb110, 4, none⟩) (Kd.R_types HO122.out BK110.out (by decide)) (fun _ hk => hk.2) _) (fun _ hk => by first | exact ⟨hk.1.1, ⟨hk.1.2.1, hk.1.2.2⟩⟩ | exact hk | exact hk.1 | exact hk.2 | exact hk.1.1 | exact hk.1.2 | exact ⟨hk.1.1, hk.1.2⟩ | exact ⟨hk.1.2, hk.2⟩)), fun _ => (by (with_reducible repeat (first | apply Kd.R_alloc | apply Kd.R_drewN | apply Kd.R_drew)); exact Kd.R_mono (Kd.R_far (p := ⟨gb110, 4, none⟩) (Kd.R_types HO125.out BK110.out (by decide)) (fun _ hk => hk.2) _) (fun _ hk => by first | exact ⟨hk.1.1, ⟨hk.1.2.1, hk.1.2.2⟩⟩ | exact hk | exact hk.1 | exact hk.2 | exact hk.1.1 | exact hk.1.2 | exact ⟨hk.1.1, hk.1.2⟩ | exact ⟨hk.1.2, hk.2⟩)), fun _ h1_ => absurd ((up_self b 13).symm.trans h1_) (by decide), fun _ => (by (with_reducible repeat (first | refine blk_drewN ?_ _ | refine blk_drew ?_ | refine blk_alloc ?_ _)); refine blk_put (cs := #[.int .i64 (Go.bits .and .i64 a0_0 31), .int .i64 (wrap64 (5 + (Go.bits .and .i64 a0_1 1))), .int .i64 (wrap64 ((Go.bits .and .i64 a0_2 31) + 1)), v121, u111004]) ?_ 4 _ rfl; (with_reducible repeat (first | refine blk_drewN ?_ _ | refine blk_drew ?_ | refine blk_alloc ?_ _)); exact BK110.out), Q_NE⟩
                    exact steps_nil
                  rintro b a w60 hall ⟨v121, v124, ha, Q_HO_111003, Q_HO_111004, Q_BK109, Q_BK110, Q_HB, Q_HO122, Q_HO125, Q_BK110_e11, Q_BK110_e13, Q_NE⟩
                  clear BK109 BK110 HB HO_111003 HO_111004
                  have hb1_ := hall 1 (by kernel_rfl)
                  have hb2_ := hall 2 (by kernel_rfl)
                  have hb3_ := hall 3 (by kernel_rfl)
                  have hb4_ := hall 4 (by kernel_rfl)
                  have hb6_ := hall 6 (by kernel_rfl)
                  have hb7_ := hall 7 (by kernel_rfl)
                  have hb8_ := hall 8 (by kernel_rfl)
                  have hb9_ := hall 9 (by kernel_rfl)
                  have hb10_ := hall 10 (by kernel_rfl)
                  have hb11_ := hall 11 (by kernel_rfl)
                  have hb12_ := hall 12 (by kernel_rfl)
                  have hb13_ := hall 13 (by kernel_rfl)
                  subst ha
                  simp only [putSel, hb1_, hb2_, hb3_, hb4_, hb6_, hb7_, hb8_, hb9_, hb10_, hb11_, hb12_, hb13_, if_true, Act.put, List.setIfInBounds_toArray, List.set_cons_zero, List.set_cons_succ]
                  have HO_111003 := Aside0.mk Q_HO_111003
                  clear Q_HO_111003
                  have HO_111004 := Aside0.mk Q_HO_111004
                  clear Q_HO_111004
                  have BK109 := Aside0.mk Q_BK109
                  clear Q_BK109
                  clear Q_BK110
                  have HB := Aside0.mk Q_HB
                  clear Q_HB
                  have HO122 := Aside0.mk (Q_HO122 hb4_)
                  clear Q_HO122
                  have HO125 := Aside0.mk (Q_HO125 hb9_)
                  clear Q_HO125
                  have NE_ := Q_NE hb4_ hb9_
                  clear Q_NE
                  replace HO122 := Aside0.mk (show Kd.R (Kd.int .i64) 3 w60 w.heap.size (fun k_ => some k_ ≠ (v124 : Value).ownBlock ∧ True) v121 y120 from Kd.R_of_own (Kd.own_of_R HO122.out) (fun k hk => ⟨fun he => NE_ k hk he.symm, trivial⟩))
                  replace HO125 := Aside0.mk (show Kd.R (Kd.int .i64) 3 w60 w.heap.size (fun k_ => some k_ ≠ (v121 : Value).ownBlock ∧ True) v124 y123 from Kd.R_of_own (Kd.own_of_R HO125.out) (fun k hk => ⟨fun he => NE_ k he.symm hk, trivial⟩))
                  clear Q_BK110_e11
                  have BK110 := Aside0.mk (Q_BK110_e13 hb13_)
                  clear Q_BK110_e13
                  clear hall hb1_ hb2_ hb3_ hb4_ hb6_ hb7_ hb8_ hb9_ hb10_ hb11_ hb12_ hb13_
                  try go_wp2
                  go_meet
                  case rel => exact ⟨_, (y120), (y123), (v121), (v124), H', ⟨by have := HJ2.out; have := HJ22.out; have := HJ37.out; first | omega | exact Nat.le_refl _⟩, ⟨by (with_reducible repeat (first | apply Kd.R_alloc | apply Kd.R_drewN | apply Kd.R_drew)); exact Kd.R_mono HO122.out (fun _ hk => hk.1)⟩, ⟨by (with_reducible repeat (first | apply Kd.R_alloc | apply Kd.R_drewN | apply Kd.R_drew)); exact Kd.R_mono HO125.out (fun _ hk => hk.1)⟩, ⟨by (with_reducible repeat (first | refine blk_drewN ?_ _ | refine blk_drew ?_ | refine blk_alloc ?_ _)); exact BK109.out⟩, ⟨by (with_reducible repeat (first | refine blk_drewN ?_ _ | refine blk_drew ?_ | refine blk_alloc ?_ _)); exact BK110.out⟩, ⟨by repeat (first | (with_reducible first | exact HB.out | apply below_alloc | apply pw_below_drewN | apply below_drew1 | refine below_set ?_ GE109.out | refine below_set ?_ GE110.out) | exact HB.out)⟩⟩
                · replace c50 := Bool.eq_false_iff.mpr c50
                  subst c50
                  have H1 : (tarnlaw11_Near.j5 kj37 a1 a0_0 a0_1 a0_2 l0_3 l0_4 (Go.bits .and .i64 a0_0 31) (wrap64 (5 + (Go.bits .and .i64 a0_1 1))) (wrap64 ((Go.bits .and .i64 a0_2 31) + 1)) x111003_2 x111004_22) = some (r1, r2, r3, r4, r5) := by rw [if_neg (show ¬ (false = true) by decide)] at H; exact H
                  clear H
                  have H := H1
                  clear H1
                  have H' := Aside0.mk H
                  clear H
                  go_wp2
                  go_meet
                  case rel => exact ⟨_, (x111003_2), (x111004_22), (u111003), (u111004), H', ⟨by have := HJ2.out; have := HJ22.out; have := HJ37.out; first | omega | exact Nat.le_refl _⟩, ⟨by (with_reducible repeat (first | apply Kd.R_alloc | apply Kd.R_drewN | apply Kd.R_drew)); exact HO_111003.out⟩, ⟨by (with_reducible repeat (first | apply Kd.R_alloc | apply Kd.R_drewN | apply Kd.R_drew)); exact HO_111004.out⟩, ⟨by (with_reducible repeat (first | refine blk_drewN ?_ _ | refine blk_drew ?_ | refine blk_alloc ?_ _)); exact BK109.out⟩, ⟨by (with_reducible repeat (first | refine blk_drewN ?_ _ | refine blk_drew ?_ | refine blk_alloc ?_ _)); exact BK110.out⟩, ⟨by repeat (first | (with_reducible first | exact HB.out | apply below_alloc | apply pw_below_drewN | apply below_drew1 | refine below_set ?_ GE109.out | refine below_set ?_ GE110.out) | exact HB.out)⟩⟩
              case rest =>
                clear HC49
                try clear c1
                try clear p1
                try clear q1
                try clear hx1
                try clear c2
                try clear p2
                try clear c3
                try clear c4
                try clear c5
                try clear c6
                try clear p6
                try clear c9
                try clear c9b0
                try clear c9b1
                try clear c10
                try clear c10b0
                try clear c11
                try clear c11b0
                try clear p11
                try clear q11
                try clear hx11
                try clear c12
                try clear c13
                try clear c19
                try clear c21
                try clear c24
                try clear c24b0
                try clear c24b1
                try clear c25
                try clear c25b0
                try clear c26
                try clear c26b0
                try clear c27
                try clear c28
                try clear c31
                try clear c34
                try clear c36
                try clear c40
                try clear c41
                try clear c45
                try clear c50
                try clear hcz14_0
                try clear hcz14_1
                try clear hcz14_2
                try clear hcz14_3
                try clear hcz14_4
                try clear hcz20_0
                try clear hcz20_1
                try clear hcz20_2
                try clear hcz20_3
                try clear hcz20_4
                try clear hcz22_0
                try clear hcz22_1
                try clear hcz22_2
                try clear hcz22_3
                try clear hcz22_4
                try clear hcz29_0
                try clear hcz29_1
                try clear hcz29_2
                try clear hcz29_3
                try clear hcz29_4
                try clear hcz35_0
                try clear hcz35_1
                try clear hcz35_2
                try clear hcz35_3
                try clear hcz35_4
                try clear hcz37_0
                try clear hcz37_1
                try clear hcz37_2
                try clear hcz37_3
                try clear hcz37_4
                try clear hcz42_0
                try clear hcz42_1
                try clear hcz42_2
                try clear hcz42_3
                try clear hcz42_4
                try clear hcz46_0
                try clear hcz46_1
                try clear hcz46_2
                try clear hcz46_3
                try clear hcz46_4
                try clear hcz7_0
                try clear hcz7_1
                try clear hcz7_2
                try clear hcz7_3
                try clear hcz7_4
                try clear hcz8_0
                try clear hcz8_1
                try clear hcz8_2
                try clear hcz8_3
                try clear hcz8_4
                try clear hfz14_0
                try clear hfz14_1
                try clear hfz14_2
                try clear hfz14_3
                try clear hfz14_4
                try clear hfz20_0
                try clear hfz20_1
                try clear hfz20_2
                try clear hfz20_3
                try clear hfz20_4
                try clear hfz22_0
                try clear hfz22_1
                try clear hfz22_2
                try clear hfz22_3
                try clear hfz22_4
                try clear hfz29_0
                try clear hfz29_1
                try clear hfz29_2
                try clear hfz29_3
                try clear hfz29_4
                try clear hfz35_0
                try clear hfz35_1
                try clear hfz35_2
                try clear hfz35_3
                try clear hfz35_4
                try clear hfz37_0
                try clear hfz37_1
                try clear hfz37_2
                try clear hfz37_3
                try clear hfz37_4
                try clear hfz42_0
                try clear hfz42_1
                try clear hfz42_2
                try clear hfz42_3
                try clear hfz42_4
                try clear hfz46_0
                try clear hfz46_1
                try clear hfz46_2
                try clear hfz46_3
                try clear hfz46_4
                try clear hfz7_0
                try clear hfz7_1
                try clear hfz7_2
                try clear hfz7_3
                try clear hfz7_4
                try clear hfz8_0
                try clear hfz8_1
                try clear hfz8_2
                try clear hfz8_3
                try clear hfz8_4
                try clear hx111_0
                try clear hx115_0
                try clear p1
                try clear p11
                try clear p111
                try clear p115
                try clear p2
                try clear p6
                try clear q1
                try clear q11
                try clear q111
                try clear q115
                obtain ⟨kq, x111003_48, x111004_48, u111003, u111004, HA, HJ48, HO_111003, HO_111004, BK109, BK110, HB⟩ := hcut
                cases kq with
                | zero => exact absurd HA.out (by simp [tarnlaw11_Near.j5])
                | succ kj48 =>
                  have H := HA.out
                  clear HA
                  simp only [tarnlaw11_Near.j5] at H
                  by_cases c61 : (Go.bits .and .i64 a1 15) = 4
                  · rw [if_pos c61] at H
                    have c61b0 : ((Go.bits .and .i64 a1 15) == 4) = true := beq_iff_eq.mpr c61
                    have c61b1 : ((Go.bits .and .i64 a1 15) != 4) = false := bne_eq_false_iff_eq.mpr c61
                    clear c61
                    simp only [Option.some.injEq, Prod.mk.injEq] at H
                    obtain ⟨rfl, rfl, rfl, rfl, rfl⟩ := H
                    have hnb62 := NB110_109.out
                    have hnc62 := NB109_110.out
                    have hcz63_0 : wc.cell? ⟨gb110, 0, none⟩ = some (.int .i64 (Go.bits .and .i64 a0_0 31)) := (blk_cell BK110.out 0).trans rfl
                    have hcz63_1 : wc.cell? ⟨gb110, 1, none⟩ = some (.int .i64 (wrap64 (5 + (Go.bits .and .i64 a0_1 1)))) := (blk_cell BK110.out 1).trans rfl
                    have hcz63_2 : wc.cell? ⟨gb110, 2, none⟩ = some (.int .i64 (wrap64 ((Go.bits .and .i64 a0_2 31) + 1))) := (blk_cell BK110.out 2).trans rfl
                    have hcz63_3 : wc.cell? ⟨gb110, 3, none⟩ = some (u111003) := (blk_cell BK110.out 3).trans rfl
                    have hcz63_4 : wc.cell? ⟨gb110, 4, none⟩ = some (u111004) := (blk_cell BK110.out 4).trans rfl
                    have hfz63_0 := blk_frozen BK110.out 0
                    have hfz63_1 := blk_frozen BK110.out 1
                    have hfz63_2 := blk_frozen BK110.out 2
                    have hfz63_3 := blk_frozen BK110.out 3
                    have hfz63_4 := blk_frozen BK110.out 4
                    go_wp2
                    refine bodyPost_ret (results_cell_row rfl _ _ gb110 24 #[.int .i64 0, .int .i64 0, .int .i64 0, .slice none 0 0, .slice none 0 0] (0, 0) _ rfl (by (with_reducible repeat (first | refine blk_drewN ?_ _ | refine blk_drew ?_ | refine blk_alloc ?_ _)); refine blk_put (cs := #[.int .i64 0, .int .i64 0, .int .i64 0, .slice none 0 0, .slice none 0 0]) ?_ 4 _ rfl; (with_reducible repeat (first | refine blk_drewN ?_ _ | refine blk_drew ?_ | refine blk_alloc ?_ _)); refine blk_put (cs := #[.int .i64 0, .int .i64 0, .int .i64 0, .slice none 0 0, .slice none 0 0]) ?_ 3 _ rfl; (with_reducible repeat (first | refine blk_drewN ?_ _ | refine blk_drew ?_ | refine blk_alloc ?_ _)); refine blk_put (cs := #[.int .i64 0, .int .i64 0, .int .i64 0, .slice none 0 0, .slice none 0 0]) ?_ 2 _ rfl; (with_reducible repeat (first | refine blk_drewN ?_ _ | refine blk_drew ?_ | refine blk_alloc ?_ _)); refine blk_put (cs := #[.int .i64 0, .int .i64 0, .int .i64 0, .slice none 0 0, .slice none 0 0]) ?_ 1 _ rfl; (with_reducible repeat (first | refine blk_drewN ?_ _ | refine blk_drew ?_ | refine blk_alloc ?_ _)); refine blk_put (cs := #[.int .i64 0, .int .i64 0, .int .i64 0, .slice none 0 0, .slice none 0 0]) ?_ 0 _ rfl; (with_reducible repeat (first | refine blk_drewN ?_ _ | refine blk_drew ?_ | refine blk_alloc ?_ _)); refine blk_put (cs := #[.int .i64 0, .int .i64 0, .int .i64 0, .slice none 0 0, u111004]) ?_ 4 _ rfl; (with_reducible repeat (first | refine blk_drewN ?_ _ | refine blk_drew ?_ | refine blk_alloc ?_ _)); refine blk_put (cs := #[.int .i64 0, .int .i64 0, .int .i64 0, u111003, u111004]) ?_ 3 _ rfl; (with_reducible repeat (first | refine blk_drewN ?_ _ | refine blk_drew ?_ | refine blk_alloc ?_ _)); refine blk_put (cs := #[.int .i64 0, .int .i64 0, .int .i64 (wrap64 ((Go.bits .and .i64 a0_2 31) + 1)), u111003, u111004]) ?_ 2 _ rfl; (with_reducible repeat (first | refine blk_drewN ?_ _ | refine blk_drew ?_ | refine blk_alloc ?_ _)); refine blk_put (cs := #[.int .i64 0, .int .i64 (wrap64 (5 + (Go.bits .and .i64 a0_1 1))), .int .i64 (wrap64 ((Go.bits .and .i64 a0_2 31) + 1)), u111003, u111004]) ?_ 1 _ rfl; (with_reducible repeat (first | refine blk_drewN ?_ _ | refine blk_drew ?_ | refine blk_alloc ?_ _)); refine blk_put (cs := #[.int .i64 (Go.bits .and .i64 a0_0 31), .int .i64 (wrap64 (5 + (Go.bits .and .i64 a0_1 1))), .int .i64 (wrap64 ((Go.bits .and .i64 a0_2 31) + 1)), u111003, u111004]) ?_ 0 _ rfl; (with_reducible repeat (first | refine blk_drewN ?_ _ | refine blk_drew ?_ | refine blk_alloc ?_ _)); exact BK110.out) Try.underlying24 rfl (by kernel_rfl)) rfl ?_
                    exact ⟨_, _, by first | rfl | (simp [errW_none, errW_some] <;> rfl) | (simp [*, errW_none, errW_some] <;> rfl), by first | exact Kd.R_nil _ _ _ _ _ | exact Kd.N_nil _ _ _ _ _ | exact Kd.V_nil _ _ _ _ _ | exact Kd.Q_nil _ _ _ _ _ | exact Kd.S_nil _ _ _ _ _, by first | exact Kd.R_nil _ _ _ _ _ | exact Kd.N_nil _ _ _ _ _ | exact Kd.V_nil _ _ _ _ _ | exact Kd.Q_nil _ _ _ _ _ | exact Kd.S_nil _ _ _ _ _, by repeat (first | (with_reducible first | exact HB.out | apply below_alloc | apply pw_below_drewN | apply below_drew1 | refine below_set ?_ GE109.out | refine below_set ?_ GE110.out) | exact HB.out)⟩
                  · rw [if_neg c61] at H
                    have c61b0 : ((Go.bits .and .i64 a1 15) == 4) = false := beq_eq_false_iff_ne.mpr c61
                    have c61b1 : ((Go.bits .and .i64 a1 15) != 4) = true := bne_iff_ne.mpr c61
                    by_cases c64 : (Go.bits .and .i64 a1 15) = 8
                    · rw [if_pos c64] at H
                      have c64b0 : ((Go.bits .and .i64 a1 15) == 8) = true := beq_iff_eq.mpr c64
                      have c64b1 : ((Go.bits .and .i64 a1 15) != 8) = false := bne_eq_false_iff_eq.mpr c64
                      clear c64
                      simp only [Option.some.injEq, Prod.mk.injEq] at H
                      obtain ⟨rfl, rfl, rfl, rfl, rfl⟩ := H
                      have hnb65 := NB109_110.out
                      have hnc65 := NB110_109.out
                      have hcz66_0 : wc.cell? ⟨gb109, 0, none⟩ = some (.int .i64 a0_0) := (blk_cell BK109.out 0).trans rfl
                      have hcz66_1 : wc.cell? ⟨gb109, 1, none⟩ = some (.int .i64 a0_1) := (blk_cell BK109.out 1).trans rfl
                      have hcz66_2 : wc.cell? ⟨gb109, 2, none⟩ = some (.int .i64 a0_2) := (blk_cell BK109.out 2).trans rfl
                      have hcz66_3 : wc.cell? ⟨gb109, 3, none⟩ = some (.slice A0_3 l0_3.length c0_3) := (blk_cell BK109.out 3).trans rfl
                      have hcz66_4 : wc.cell? ⟨gb109, 4, none⟩ = some (.slice A0_4 l0_4.length c0_4) := (blk_cell BK109.out 4).trans rfl
                      have hfz66_0 := blk_frozen BK109.out 0
                      have hfz66_1 := blk_frozen BK109.out 1
                      have hfz66_2 := blk_frozen BK109.out 2
                      have hfz66_3 := blk_frozen BK109.out 3
                      have hfz66_4 := blk_frozen BK109.out 4
                      have hcz67_0 : wc.cell? ⟨gb110, 0, none⟩ = some (.int .i64 (Go.bits .and .i64 a0_0 31)) := (blk_cell BK110.out 0).trans rfl
                      have hcz67_1 : wc.cell? ⟨gb110, 1, none⟩ = some (.int .i64 (wrap64 (5 + (Go.bits .and .i64 a0_1 1)))) := (blk_cell BK110.out 1).trans rfl
                      have hcz67_2 : wc.cell? ⟨gb110, 2, none⟩ = some (.int .i64 (wrap64 ((Go.bits .and .i64 a0_2 31) + 1))) := (blk_cell BK110.out 2).trans rfl
                      have hcz67_3 : wc.cell? ⟨gb110, 3, none⟩ = some (u111003) := (blk_cell BK110.out 3).trans rfl
                      have hcz67_4 : wc.cell? ⟨gb110, 4, none⟩ = some (u111004) := (blk_cell BK110.out 4).trans rfl
                      have hfz67_0 := blk_frozen BK110.out 0
                      have hfz67_1 := blk_frozen BK110.out 1
                      have hfz67_2 := blk_frozen BK110.out 2
                      have hfz67_3 := blk_frozen BK110.out 3
                      have hfz67_4 := blk_frozen BK110.out 4
                      obtain ⟨Ao68, co68, eo68⟩ := Kd.R_slice HO_111003.out
                      subst eo68
                      obtain ⟨Ao69, co69, eo69⟩ := Kd.R_slice HO_111004.out
                      subst eo69
                      go_wp2
                      refine bodyPost_ret (results_cell_row rfl _ _ gb110 24 #[.int .i64 (Go.bits .and .i64 a0_0 31), .int .i64 a0_1, .int .i64 (wrap64 ((Go.bits .and .i64 a0_2 31) + 1)), .slice Ao68 x111003_48.length co68, .slice Ao69 x111004_48.length co69] (0, 0) _ rfl (by (with_reducible repeat (first | refine blk_drewN ?_ _ | refine blk_drew ?_ | refine blk_alloc ?_ _)); refine blk_put (cs := #[.int .i64 (Go.bits .and .i64 a0_0 31), .int .i64 a0_1, .int .i64 (wrap64 ((Go.bits .and .i64 a0_2 31) + 1)), .slice Ao68 x111003_48.length co68, .slice Ao69 x111004_48.length co69]) ?_ 4 _ rfl; (with_reducible repeat (first | refine blk_drewN ?_ _ | refine blk_drew ?_ | refine blk_alloc ?_ _)); refine blk_put (cs := #[.int .i64 (Go.bits .and .i64 a0_0 31), .int .i64 a0_1, .int .i64 (wrap64 ((Go.bits .and .i64 a0_2 31) + 1)), .slice Ao68 x111003_48.length co68, .slice Ao69 x111004_48.length co69]) ?_ 3 _ rfl; (with_reducible repeat (first | refine blk_drewN ?_ _ | refine blk_drew ?_ | refine blk_alloc ?_ _)); refine blk_put (cs := #[.int .i64 (Go.bits .and .i64 a0_0 31), .int .i64 a0_1, .int .i64 (wrap64 ((Go.bits .and .i64 a0_2 31) + 1)), .slice Ao68 x111003_48.length co68, .slice Ao69 x111004_48.length co69]) ?_ 2 _ rfl; (with_reducible repeat (first | refine blk_drewN ?_ _ | refine blk_drew ?_ | refine blk_alloc ?_ _)); refine blk_put (cs := #[.int .i64 (Go.bits .and .i64 a0_0 31), .int .i64 a0_1, .int .i64 (wrap64 ((Go.bits .and .i64 a0_2 31) + 1)), .slice Ao68 x111003_48.length co68, .slice Ao69 x111004_48.length co69]) ?_ 1 _ rfl; (with_reducible repeat (first | refine blk_drewN ?_ _ | refine blk_drew ?_ | refine blk_alloc ?_ _)); refine blk_put (cs := #[.int .i64 (Go.bits .and .i64 a0_0 31), .int .i64 a0_1, .int .i64 (wrap64 ((Go.bits .and .i64 a0_2 31) + 1)), .slice Ao68 x111003_48.length co68, .slice Ao69 x111004_48.length co69]) ?_ 0 _ rfl; (with_reducible repeat (first | refine blk_drewN ?_ _ | refine blk_drew ?_ | refine blk_alloc ?_ _)); refine blk_put (cs := #[.int .i64 (Go.bits .and .i64 a0_0 31), .int .i64 (wrap64 (5 + (Go.bits .and .i64 a0_1 1))), .int .i64 (wrap64 ((Go.bits .and .i64 a0_2 31) + 1)), .slice Ao68 x111003_48.length co68, .slice Ao69 x111004_48.length co69]) ?_ 1 _ rfl; (with_reducible repeat (first | refine blk_drewN ?_ _ | refine blk_drew ?_ | refine blk_alloc ?_ _)); exact BK110.out) Try.underlying24 rfl (by kernel_rfl)) rfl ?_
                      exact ⟨_, _, by first | rfl | (simp [errW_none, errW_some] <;> rfl) | (simp [*, errW_none, errW_some] <;> rfl), by (with_reducible repeat (first | apply Kd.R_alloc | apply Kd.R_drewN | apply Kd.R_drew)); exact Kd.R_mono (Kd.R_far (p := ⟨gb110, 4, none⟩) (Kd.R_far (p := ⟨gb110, 3, none⟩) (Kd.R_far (p := ⟨gb110, 2, none⟩) (Kd.R_far (p := ⟨gb110, 1, none⟩) (Kd.R_far (p := ⟨gb110, 0, none⟩) (Kd.R_far (p := ⟨gb110, 1, none⟩) (Kd.R_types HO_111003.out BK110.out (by decide)) (fun _ hk => hk.2) (.int .i64 a0_1)) (fun _ hk => hk.2) (.int .i64 (Go.bits .and .i64 a0_0 31))) (fun _ hk => hk.2) (.int .i64 a0_1)) (fun _ hk => hk.2) (.int .i64 (wrap64 ((Go.bits .and .i64 a0_2 31) + 1)))) (fun _ hk => hk.2) (.slice Ao68 x111003_48.length co68)) (fun _ hk => hk.2) (.slice Ao69 x111004_48.length co69)) (fun _ hk => hk.1), by (with_reducible repeat (first | apply Kd.R_alloc | apply Kd.R_drewN | apply Kd.R_drew)); exact Kd.R_mono (Kd.R_far (p := ⟨gb110, 4, none⟩) (Kd.R_far (p := ⟨gb110, 3, none⟩) (Kd.R_far (p := ⟨gb110, 2, none⟩) (Kd.R_far (p := ⟨gb110, 1, none⟩) (Kd.R_far (p := ⟨gb110, 0, none⟩) (Kd.R_far (p := ⟨gb110, 1, none⟩) (Kd.R_types HO_111004.out BK110.out (by decide)) (fun _ hk => hk.2) (.int .i64 a0_1)) (fun _ hk => hk.2) (.int .i64 (Go.bits .and .i64 a0_0 31))) (fun _ hk => hk.2) (.int .i64 a0_1)) (fun _ hk => hk.2) (.int .i64 (wrap64 ((Go.bits .and .i64 a0_2 31) + 1)))) (fun _ hk => hk.2) (.slice Ao68 x111003_48.length co68)) (fun _ hk => hk.2) (.slice Ao69 x111004_48.length co69)) (fun _ hk => hk.1), by repeat (first | (with_reducible first | exact HB.out | apply below_alloc | apply pw_below_drewN | apply below_drew1 | refine below_set ?_ GE109.out | refine below_set ?_ GE110.out) | exact HB.out)⟩
                    · rw [if_neg c64] at H
                      have c64b0 : ((Go.bits .and .i64 a1 15) == 8) = false := beq_eq_false_iff_ne.mpr c64
                      have c64b1 : ((Go.bits .and .i64 a1 15) != 8) = true := bne_iff_ne.mpr c64
                      by_cases c70 : (Go.bits .and .i64 a1 15) = 12
                      · rw [if_pos c70] at H
                        have c70b0 : ((Go.bits .and .i64 a1 15) == 12) = true := beq_iff_eq.mpr c70
                        have c70b1 : ((Go.bits .and .i64 a1 15) != 12) = false := bne_eq_false_iff_eq.mpr c70
                        clear c70
                        simp only [Option.some.injEq, Prod.mk.injEq] at H
                        obtain ⟨rfl, rfl, rfl, rfl, rfl⟩ := H
                        have hnb71 := NB109_110.out
                        have hnc71 := NB110_109.out
                        have hcz72_0 : wc.cell? ⟨gb109, 0, none⟩ = some (.int .i64 a0_0) := (blk_cell BK109.out 0).trans rfl
                        have hcz72_1 : wc.cell? ⟨gb109, 1, none⟩ = some (.int .i64 a0_1) := (blk_cell BK109.out 1).trans rfl
                        have hcz72_2 : wc.cell? ⟨gb109, 2, none⟩ = some (.int .i64 a0_2) := (blk_cell BK109.out 2).trans rfl
                        have hcz72_3 : wc.cell? ⟨gb109, 3, none⟩ = some (.slice A0_3 l0_3.length c0_3) := (blk_cell BK109.out 3).trans rfl
                        have hcz72_4 : wc.cell? ⟨gb109, 4, none⟩ = some (.slice A0_4 l0_4.length c0_4) := (blk_cell BK109.out 4).trans rfl
                        have hfz72_0 := blk_frozen BK109.out 0
                        have hfz72_1 := blk_frozen BK109.out 1
                        have hfz72_2 := blk_frozen BK109.out 2
                        have hfz72_3 := blk_frozen BK109.out 3
                        have hfz72_4 := blk_frozen BK109.out 4
                        have hcz73_0 : wc.cell? ⟨gb110, 0, none⟩ = some (.int .i64 (Go.bits .and .i64 a0_0 31)) := (blk_cell BK110.out 0).trans rfl
                        have hcz73_1 : wc.cell? ⟨gb110, 1, none⟩ = some (.int .i64 (wrap64 (5 + (Go.bits .and .i64 a0_1 1)))) := (blk_cell BK110.out 1).trans rfl
                        have hcz73_2 : wc.cell? ⟨gb110, 2, none⟩ = some (.int .i64 (wrap64 ((Go.bits .and .i64 a0_2 31) + 1))) := (blk_cell BK110.out 2).trans rfl
                        have hcz73_3 : wc.cell? ⟨gb110, 3, none⟩ = some (u111003) := (blk_cell BK110.out 3).trans rfl
                        have hcz73_4 : wc.cell? ⟨gb110, 4, none⟩ = some (u111004) := (blk_cell BK110.out 4).trans rfl
                        have hfz73_0 := blk_frozen BK110.out 0
                        have hfz73_1 := blk_frozen BK110.out 1
                        have hfz73_2 := blk_frozen BK110.out 2
                        have hfz73_3 := blk_frozen BK110.out 3
                        have hfz73_4 := blk_frozen BK110.out 4
                        obtain ⟨Ao74, co74, eo74⟩ := Kd.R_slice HO_111003.out
                        subst eo74
                        obtain ⟨Ao75, co75, eo75⟩ := Kd.R_slice HO_111004.out
                        subst eo75
                        go_wp2
                        refine bodyPost_ret (results_cell_row rfl _ _ gb110 24 #[.int .i64 a0_0, .int .i64 (wrap64 (5 + (Go.bits .and .i64 a0_1 1))), .int .i64 (wrap64 ((Go.bits .and .i64 a0_2 31) + 1)), .slice Ao74 x111003_48.length co74, .slice Ao75 x111004_48.length co75] (0, 0) _ rfl (by (with_reducible repeat (first | refine blk_drewN ?_ _ | refine blk_drew ?_ | refine blk_alloc ?_ _)); refine blk_put (cs := #[.int .i64 a0_0, .int .i64 (wrap64 (5 + (Go.bits .and .i64 a0_1 1))), .int .i64 (wrap64 ((Go.bits .and .i64 a0_2 31) + 1)), .slice Ao74 x111003_48.length co74, .slice Ao75 x111004_48.length co75]) ?_ 4 _ rfl; (with_reducible repeat (first | refine blk_drewN ?_ _ | refine blk_drew ?_ | refine blk_alloc ?_ _)); refine blk_put (cs := #[.int .i64 a0_0, .int .i64 (wrap64 (5 + (Go.bits .and .i64 a0_1 1))), .int .i64 (wrap64 ((Go.bits .and .i64 a0_2 31) + 1)), .slice Ao74 x111003_48.length co74, .slice Ao75 x111004_48.length co75]) ?_ 3 _ rfl; (with_reducible repeat (first | refine blk_drewN ?_ _ | refine blk_drew ?_ | refine blk_alloc ?_ _)); refine blk_put (cs := #[.int .i64 a0_0, .int .i64 (wrap64 (5 + (Go.bits .and .i64 a0_1 1))), .int .i64 (wrap64 ((Go.bits .and .i64 a0_2 31) + 1)), .slice Ao74 x111003_48.length co74, .slice Ao75 x111004_48.length co75]) ?_ 2 _ rfl; (with_reducible repeat (first | refine blk_drewN ?_ _ | refine blk_drew ?_ | refine blk_alloc ?_ _)); refine blk_put (cs := #[.int .i64 a0_0, .int .i64 (wrap64 (5 + (Go.bits .and .i64 a0_1 1))), .int .i64 (wrap64 ((Go.bits .and .i64 a0_2 31) + 1)), .slice Ao74 x111003_48.length co74, .slice Ao75 x111004_48.length co75]) ?_ 1 _ rfl; (with_reducible repeat (first | refine blk_drewN ?_ _ | refine blk_drew ?_ | refine blk_alloc ?_ _)); refine blk_put (cs := #[.int .i64 a0_0, .int .i64 (wrap64 (5 + (Go.bits .and .i64 a0_1 1))), .int .i64 (wrap64 ((Go.bits .and .i64 a0_2 31) + 1)), .slice Ao74 x111003_48.length co74, .slice Ao75 x111004_48.length co75]) ?_ 0 _ rfl; (with_reducible repeat (first | refine blk_drewN ?_ _ | refine blk_drew ?_ | refine blk_alloc ?_ _)); refine blk_put (cs := #[.int .i64 (Go.bits .and .i64 a0_0 31), .int .i64 (wrap64 (5 + (Go.bits .and .i64 a0_1 1))), .int .i64 (wrap64 ((Go.bits .and .i64 a0_2 31) + 1)), .slice Ao74 x111003_48.length co74, .slice Ao75 x111004_48.length co75]) ?_ 0 _ rfl; (with_reducible repeat (first | refine blk_drewN ?_ _ | refine blk_drew ?_ | refine blk_alloc ?_ _)); exact BK110.out) Try.underlying24 rfl (by kernel_rfl)) rfl ?_
                        exact ⟨_, _, by first | rfl | (simp [errW_none, errW_some] <;> rfl) | (simp [*, errW_none, errW_some] <;> rfl), by (with_reducible repeat (first | apply Kd.R_alloc | apply Kd.R_drewN | apply Kd.R_drew)); exact Kd.R_mono (Kd.R_far (p := ⟨gb110, 4, none⟩) (Kd.R_far (p := ⟨gb110, 3, none⟩) (Kd.R_far (p := ⟨gb110, 2, none⟩) (Kd.R_far (p := ⟨gb110, 1, none⟩) (Kd.R_far (p := ⟨gb110, 0, none⟩) (Kd.R_far (p := ⟨gb110, 0, none⟩) (Kd.R_types HO_111003.out BK110.out (by decide)) (fun _ hk => hk.2) (.int .i64 a0_0)) (fun _ hk => hk.2) (.int .i64 a0_0)) (fun _ hk => hk.2) (.int .i64 (wrap64 (5 + (Go.bits .and .i64 a0_1 1))))) (fun _ hk => hk.2) (.int .i64 (wrap64 ((Go.bits .and .i64 a0_2 31) + 1)))) (fun _ hk => hk.2) (.slice Ao74 x111003_48.length co74)) (fun _ hk => hk.2) (.slice Ao75 x111004_48.length co75)) (fun _ hk => hk.1), by (with_reducible repeat (first | apply Kd.R_alloc | apply Kd.R_drewN | apply Kd.R_drew)); exact Kd.R_mono (Kd.R_far (p := ⟨gb110, 4, none⟩) (Kd.R_far (p := ⟨gb110, 3, none⟩) (Kd.R_far (p := ⟨gb110, 2, none⟩) (Kd.R_far (p := ⟨gb110, 1, none⟩) (Kd.R_far (p := ⟨gb110, 0, none⟩) (Kd.R_far (p := ⟨gb110, 0, none⟩) (Kd.R_types HO_111004.out BK110.out (by decide)) (fun _ hk => hk.2) (.int .i64 a0_0)) (fun _ hk => hk.2) (.int .i64 a0_0)) (fun _ hk => hk.2) (.int .i64 (wrap64 (5 + (Go.bits .and .i64 a0_1 1))))) (fun _ hk => hk.2) (.int .i64 (wrap64 ((Go.bits .and .i64 a0_2 31) + 1)))) (fun _ hk => hk.2) (.slice Ao74 x111003_48.length co74)) (fun _ hk => hk.2) (.slice Ao75 x111004_48.length co75)) (fun _ hk => hk.1), by repeat (first | (with_reducible first | exact HB.out | apply below_alloc | apply pw_below_drewN | apply below_drew1 | refine below_set ?_ GE109.out | refine below_set ?_ GE110.out) | exact HB.out)⟩
                      · rw [if_neg c70] at H
                        have c70b0 : ((Go.bits .and .i64 a1 15) == 12) = false := beq_eq_false_iff_ne.mpr c70
                        have c70b1 : ((Go.bits .and .i64 a1 15) != 12) = true := bne_iff_ne.mpr c70
                        simp only [Option.some.injEq, Prod.mk.injEq] at H
                        obtain ⟨rfl, rfl, rfl, rfl, rfl⟩ := H
                        have hnb76 := NB110_109.out
                        have hnc76 := NB109_110.out
                        have hcz77_0 : wc.cell? ⟨gb110, 0, none⟩ = some (.int .i64 (Go.bits .and .i64 a0_0 31)) := (blk_cell BK110.out 0).trans rfl
                        have hcz77_1 : wc.cell? ⟨gb110, 1, none⟩ = some (.int .i64 (wrap64 (5 + (Go.bits .and .i64 a0_1 1)))) := (blk_cell BK110.out 1).trans rfl
                        have hcz77_2 : wc.cell? ⟨gb110, 2, none⟩ = some (.int .i64 (wrap64 ((Go.bits .and .i64 a0_2 31) + 1))) := (blk_cell BK110.out 2).trans rfl
                        have hcz77_3 : wc.cell? ⟨gb110, 3, none⟩ = some (u111003) := (blk_cell BK110.out 3).trans rfl
                        have hcz77_4 : wc.cell? ⟨gb110, 4, none⟩ = some (u111004) := (blk_cell BK110.out 4).trans rfl
                        have hfz77_0 := blk_frozen BK110.out 0
                        have hfz77_1 := blk_frozen BK110.out 1
                        have hfz77_2 := blk_frozen BK110.out 2
                        have hfz77_3 := blk_frozen BK110.out 3
                        have hfz77_4 := blk_frozen BK110.out 4
                        obtain ⟨Ao78, co78, eo78⟩ := Kd.R_slice HO_111003.out
                        subst eo78
                        obtain ⟨Ao79, co79, eo79⟩ := Kd.R_slice HO_111004.out
                        subst eo79
                        go_wp2
                        refine bodyPost_ret (results_cell_row rfl _ _ gb110 24 #[.int .i64 (Go.bits .and .i64 a0_0 31), .int .i64 (wrap64 (5 + (Go.bits .and .i64 a0_1 1))), .int .i64 (wrap64 ((Go.bits .and .i64 a0_2 31) + 1)), .slice Ao78 x111003_48.length co78, .slice Ao79 x111004_48.length co79] (0, 0) _ rfl (by (with_reducible repeat (first | refine blk_drewN ?_ _ | refine blk_drew ?_ | refine blk_alloc ?_ _)); refine blk_put (cs := #[.int .i64 (Go.bits .and .i64 a0_0 31), .int .i64 (wrap64 (5 + (Go.bits .and .i64 a0_1 1))), .int .i64 (wrap64 ((Go.bits .and .i64 a0_2 31) + 1)), .slice Ao78 x111003_48.length co78, .slice Ao79 x111004_48.length co79]) ?_ 4 _ rfl; (with_reducible repeat (first | refine blk_drewN ?_ _ | refine blk_drew ?_ | refine blk_alloc ?_ _)); refine blk_put (cs := #[.int .i64 (Go.bits .and .i64 a0_0 31), .int .i64 (wrap64 (5 + (Go.bits .and .i64 a0_1 1))), .int .i64 (wrap64 ((Go.bits .and .i64 a0_2 31) + 1)), .slice Ao78 x111003_48.length co78, .slice Ao79 x111004_48.length co79]) ?_ 3 _ rfl; (with_reducible repeat (first | refine blk_drewN ?_ _ | refine blk_drew ?_ | refine blk_alloc ?_ _)); refine blk_put (cs := #[.int .i64 (Go.bits .and .i64 a0_0 31), .int .i64 (wrap64 (5 + (Go.bits .and .i64 a0_1 1))), .int .i64 (wrap64 ((Go.bits .and .i64 a0_2 31) + 1)), .slice Ao78 x111003_48.length co78, .slice Ao79 x111004_48.length co79]) ?_ 2 _ rfl; (with_reducible repeat (first | refine blk_drewN ?_ _ | refine blk_drew ?_ | refine blk_alloc ?_ _)); refine blk_put (cs := #[.int .i64 (Go.bits .and .i64 a0_0 31), .int .i64 (wrap64 (5 + (Go.bits .and .i64 a0_1 1))), .int .i64 (wrap64 ((Go.bits .and .i64 a0_2 31) + 1)), .slice Ao78 x111003_48.length co78, .slice Ao79 x111004_48.length co79]) ?_ 1 _ rfl; (with_reducible repeat (first | refine blk_drewN ?_ _ | refine blk_drew ?_ | refine blk_alloc ?_ _)); refine blk_put (cs := #[.int .i64 (Go.bits .and .i64 a0_0 31), .int .i64 (wrap64 (5 + (Go.bits .and .i64 a0_1 1))), .int .i64 (wrap64 ((Go.bits .and .i64 a0_2 31) + 1)), .slice Ao78 x111003_48.length co78, .slice Ao79 x111004_48.length co79]) ?_ 0 _ rfl; (with_reducible repeat (first | refine blk_drewN ?_ _ | refine blk_drew ?_ | refine blk_alloc ?_ _)); exact BK110.out) Try.underlying24 rfl (by kernel_rfl)) rfl ?_
                        exact ⟨_, _, by first | rfl | (simp [errW_none, errW_some] <;> rfl) | (simp [*, errW_none, errW_some] <;> rfl), by (with_reducible repeat (first | apply Kd.R_alloc | apply Kd.R_drewN | apply Kd.R_drew)); exact Kd.R_mono (Kd.R_far (p := ⟨gb110, 4, none⟩) (Kd.R_far (p := ⟨gb110, 3, none⟩) (Kd.R_far (p := ⟨gb110, 2, none⟩) (Kd.R_far (p := ⟨gb110, 1, none⟩) (Kd.R_far (p := ⟨gb110, 0, none⟩) (Kd.R_types HO_111003.out BK110.out (by decide)) (fun _ hk => hk.2) (.int .i64 (Go.bits .and .i64 a0_0 31))) (fun _ hk => hk.2) (.int .i64 (wrap64 (5 + (Go.bits .and .i64 a0_1 1))))) (fun _ hk => hk.2) (.int .i64 (wrap64 ((Go.bits .and .i64 a0_2 31) + 1)))) (fun _ hk => hk.2) (.slice Ao78 x111003_48.length co78)) (fun _ hk => hk.2) (.slice Ao79 x111004_48.length co79)) (fun _ hk => hk.1), by (with_reducible repeat (first | apply Kd.R_alloc | apply Kd.R_drewN | apply Kd.R_drew)); exact Kd.R_mono (Kd.R_far (p := ⟨gb110, 4, none⟩) (Kd.R_far (p := ⟨gb110, 3, none⟩) (Kd.R_far (p := ⟨gb110, 2, none⟩) (Kd.R_far (p := ⟨gb110, 1, none⟩) (Kd.R_far (p := ⟨gb110, 0, none⟩) (Kd.R_types HO_111004.out BK110.out (by decide)) (fun _ hk => hk.2) (.int .i64 (Go.bits .and .i64 a0_0 31))) (fun _ hk => hk.2) (.int .i64 (wrap64 (5 + (Go.bits .and .i64 a0_1 1))))) (fun _ hk => hk.2) (.int .i64 (wrap64 ((Go.bits .and .i64 a0_2 31) + 1)))) (fun _ hk => hk.2) (.slice Ao78 x111003_48.length co78)) (fun _ hk => hk.2) (.slice Ao79 x111004_48.length co79)) (fun _ hk => hk.1), by repeat (first | (with_reducible first | exact HB.out | apply below_alloc | apply pw_below_drewN | apply below_drew1 | refine below_set ?_ GE109.out | refine below_set ?_ GE110.out) | exact HB.out)⟩

end Go.Proofs.Ythldophikcgkcaa.PPlace
