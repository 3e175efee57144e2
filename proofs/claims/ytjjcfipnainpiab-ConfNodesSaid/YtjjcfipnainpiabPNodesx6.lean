-- Printed by wip/xprint of this session, over the kit's print: Lean functions for Go functions, and their contracts.
import Derived.Test.YtjjcfipnainpiabPNodesx0
import Derived.Test.YtjjcfipnainpiabPNodesx2
import Derived.Test.YtjjcfipnainpiabPNodesx3
import Derived.Test.YtjjcfipnainpiabPNodesx4
import Derived.Test.YtjjcfipnainpiabPNodesx5
namespace Go.Proofs.Ytjjcfipnainpiab.PNodes
open Go.RowKit Go.Proofs.YtjjcfipnainpiabW.PrintWords Go.Proofs.YtjjcfipnainpiabW.PrintLast Go.Proofs.YtjjcfipnainpiabW.PrintMore Go.Proofs.Ytjjcfipnainpiab.X
attribute [local go_sem] max2_int min2_int max_two min_two max_three min_three max_four min_four   -- for this text's walks alone
set_option linter.unusedVariables false
set_option linter.unusedSimpArgs false

/-! ### tarnlaw11_ConfNodes: function 6 -/
mutual
def tarnlaw11_ConfNodes.l0 : Nat → Int → Bool → Bool → Int → Int → Int → Int → Int → List Int → List Int → Option (Bool)
  | 0, _, _, _, _, _, _, _, _, _, _ => none
  | k + 1, x1, x6, x7, x8, x9, x173000, x173001, x173002, x173003, x173004 => if x9 < (x173003.length : Int) then (if x6 = true then (tarnlaw11_ConfNodes.l0 k x1 true x7 x8 (wrap64 (x9 + 1)) x173000 x173001 x173002 x173003 x173004) else (if 0 ≤ x9 then (tarnlaw11_ConfNodes.l0 k x1 ((rd x173003 x9) == x1) x7 x8 (wrap64 (x9 + 1)) x173000 x173001 x173002 x173003 x173004) else (none))) else (tarnlaw11_ConfNodes.l1 k x1 x6 x7 x8 0 x173000 x173001 x173002 x173003 x173004)
def tarnlaw11_ConfNodes.l1 : Nat → Int → Bool → Bool → Int → Int → Int → Int → Int → List Int → List Int → Option (Bool)
  | 0, _, _, _, _, _, _, _, _, _, _ => none
  | k + 1, x1, x6, x7, x8, x10, x173000, x173001, x173002, x173003, x173004 => if x10 < (x173004.length : Int) then (if x7 = true then (if 0 ≤ x10 then (if (rd x173004 x10) = x1 then (if (wrap64 (x10 + 1)) < (x173004.length : Int) then (if 0 ≤ (wrap64 (x10 + 1)) then (tarnlaw11_ConfNodes.l1 k x1 x6 true (rd x173004 (wrap64 (x10 + 1))) (wrap64 (x10 + 1)) x173000 x173001 x173002 x173003 x173004) else (none)) else (tarnlaw11_ConfNodes.l1 k x1 x6 true x8 (wrap64 (x10 + 1)) x173000 x173001 x173002 x173003 x173004)) else (tarnlaw11_ConfNodes.l1 k x1 x6 true x8 (wrap64 (x10 + 1)) x173000 x173001 x173002 x173003 x173004)) else (none)) else (if 0 ≤ x10 then (if (rd x173004 x10) = x1 then (if (wrap64 (x10 + 1)) < (x173004.length : Int) then (if 0 ≤ (wrap64 (x10 + 1)) then (tarnlaw11_ConfNodes.l1 k x1 x6 ((rd x173004 x10) == x1) (rd x173004 (wrap64 (x10 + 1))) (wrap64 (x10 + 1)) x173000 x173001 x173002 x173003 x173004) else (none)) else (tarnlaw11_ConfNodes.l1 k x1 x6 ((rd x173004 x10) == x1) x8 (wrap64 (x10 + 1)) x173000 x173001 x173002 x173003 x173004)) else (tarnlaw11_ConfNodes.l1 k x1 x6 ((rd x173004 x10) == x1) x8 (wrap64 (x10 + 1)) x173000 x173001 x173002 x173003 x173004)) else (none))) else ((conf_All.f x173000 x173001 x173002 x173003 x173004).bind fun t179 => (tarnlaw11_ConfNodes.l2 k x1 x6 x7 x8 t179 0 0 x173000 x173001 x173002 x173003 x173004))
def tarnlaw11_ConfNodes.l2 : Nat → Int → Bool → Bool → Int → List Int → Int → Int → Int → Int → Int → List Int → List Int → Option (Bool)
  | 0, _, _, _, _, _, _, _, _, _, _, _, _ => none
  | k + 1, x1, x6, x7, x8, x11, x12, x13, x173000, x173001, x173002, x173003, x173004 => if x13 < 5 then (tarnlaw11_ConfNodes.l3 k x1 x6 x7 x8 x11 x12 x13 false 0 x173000 x173001 x173002 x173003 x173004) else ((tarnlaw11_awake.f k).bind fun t185 => (if t185 = true then (if x12 = (x11.length : Int) then ((conf_Mirrors.f k x173000 x173001 x173002 x173003 x173004 x1).bind fun t186 => (if (t186 == x6) = true then ((conf_Chains.f k x173000 x173001 x173002 x173003 x173004 x1).bind fun t187 => (if (t187 == x7) = true then ((conf_Behind.f k x173000 x173001 x173002 x173003 x173004 x1).bind fun t188 => (if t188 = x8 then ((conf_Node.f x1).bind fun t189 => (if x1 ≥ 0 then (if (t189 == (decide (x1 ≤ 4))) = true then ((conf_Gate.f x1).bind fun t190 => (if x1 = 5 then (some (t190 == true)) else (some (t190 == (x1 == 6))))) else (some false)) else (if (t189 == false) = true then ((conf_Gate.f x1).bind fun t191 => (if x1 = 5 then (some (t191 == true)) else (some (t191 == (x1 == 6))))) else (some false)))) else (some false))) else (some false))) else (some false))) else (some false)) else (some false)))
def tarnlaw11_ConfNodes.l3 : Nat → Int → Bool → Bool → Int → List Int → Int → Int → Bool → Int → Int → Int → Int → List Int → List Int → Option (Bool)
  | 0, _, _, _, _, _, _, _, _, _, _, _, _, _, _ => none
  | k + 1, x1, x6, x7, x8, x11, x12, x13, x14, x15, x173000, x173001, x173002, x173003, x173004 => if x15 < (x173003.length : Int) then (if x14 = true then (tarnlaw11_ConfNodes.l3 k x1 x6 x7 x8 x11 x12 x13 true (wrap64 (x15 + 1)) x173000 x173001 x173002 x173003 x173004) else (if 0 ≤ x15 then (tarnlaw11_ConfNodes.l3 k x1 x6 x7 x8 x11 x12 x13 ((rd x173003 x15) == x13) (wrap64 (x15 + 1)) x173000 x173001 x173002 x173003 x173004) else (none))) else (tarnlaw11_ConfNodes.l4 k x1 x6 x7 x8 x11 x12 x13 x14 0 x173000 x173001 x173002 x173003 x173004)
def tarnlaw11_ConfNodes.l4 : Nat → Int → Bool → Bool → Int → List Int → Int → Int → Bool → Int → Int → Int → Int → List Int → List Int → Option (Bool)
  | 0, _, _, _, _, _, _, _, _, _, _, _, _, _, _ => none
  | k + 1, x1, x6, x7, x8, x11, x12, x13, x14, x16, x173000, x173001, x173002, x173003, x173004 => if x16 < (x173004.length : Int) then (if x14 = true then (tarnlaw11_ConfNodes.l4 k x1 x6 x7 x8 x11 x12 x13 true (wrap64 (x16 + 1)) x173000 x173001 x173002 x173003 x173004) else (if 0 ≤ x16 then (tarnlaw11_ConfNodes.l4 k x1 x6 x7 x8 x11 x12 x13 ((rd x173004 x16) == x13) (wrap64 (x16 + 1)) x173000 x173001 x173002 x173003 x173004) else (none))) else (if x14 = true then (if x12 ≥ (x11.length : Int) then (some false) else (if 0 ≤ x12 then (if x12 < (x11.length : Int) then (if (rd x11 x12) = x13 then (tarnlaw11_ConfNodes.l2 k x1 x6 x7 x8 x11 (wrap64 (x12 + 1)) (wrap64 (x13 + 1)) x173000 x173001 x173002 x173003 x173004) else (some false)) else (none)) else (none))) else (tarnlaw11_ConfNodes.l2 k x1 x6 x7 x8 x11 x12 (wrap64 (x13 + 1)) x173000 x173001 x173002 x173003 x173004))
end
def tarnlaw11_ConfNodes.f (k : Nat) (a0_0 : Int) (a0_1 : Int) (a0_2 : Int) (l0_3 : List Int) (l0_4 : List Int) (a1 : Int) : Option (Bool) := (tarnlaw11_Near.f k a0_0 a0_1 a0_2 l0_3 l0_4 5).bind fun bt163 => (tarnlaw11_ConfNodes.l0 k a1 false false (-1) 0 bt163.1 bt163.2.1 bt163.2.2.1 bt163.2.2.2.1 bt163.2.2.2.2)
theorem tarnlaw11_ConfNodes.mono_l : ∀ k, (∀ y0 y1 y2 y3 y4 y5 y6 y7 y8 y9, LeO (tarnlaw11_ConfNodes.l0 k y0 y1 y2 y3 y4 y5 y6 y7 y8 y9) (tarnlaw11_ConfNodes.l0 (k + 1) y0 y1 y2 y3 y4 y5 y6 y7 y8 y9)) ∧ (∀ y0 y1 y2 y3 y4 y5 y6 y7 y8 y9, LeO (tarnlaw11_ConfNodes.l1 k y0 y1 y2 y3 y4 y5 y6 y7 y8 y9) (tarnlaw11_ConfNodes.l1 (k + 1) y0 y1 y2 y3 y4 y5 y6 y7 y8 y9)) ∧ (∀ y0 y1 y2 y3 y4 y5 y6 y7 y8 y9 y10 y11, LeO (tarnlaw11_ConfNodes.l2 k y0 y1 y2 y3 y4 y5 y6 y7 y8 y9 y10 y11) (tarnlaw11_ConfNodes.l2 (k + 1) y0 y1 y2 y3 y4 y5 y6 y7 y8 y9 y10 y11)) ∧ (∀ y0 y1 y2 y3 y4 y5 y6 y7 y8 y9 y10 y11 y12 y13, LeO (tarnlaw11_ConfNodes.l3 k y0 y1 y2 y3 y4 y5 y6 y7 y8 y9 y10 y11 y12 y13) (tarnlaw11_ConfNodes.l3 (k + 1) y0 y1 y2 y3 y4 y5 y6 y7 y8 y9 y10 y11 y12 y13)) ∧ (∀ y0 y1 y2 y3 y4 y5 y6 y7 y8 y9 y10 y11 y12 y13, LeO (tarnlaw11_ConfNodes.l4 k y0 y1 y2 y3 y4 y5 y6 y7 y8 y9 y10 y11 y12 y13) (tarnlaw11_ConfNodes.l4 (k + 1) y0 y1 y2 y3 y4 y5 y6 y7 y8 y9 y10 y11 y12 y13))
  | 0 => ⟨fun _ _ _ _ _ _ _ _ _ _ r h => by simp [tarnlaw11_ConfNodes.l0] at h, fun _ _ _ _ _ _ _ _ _ _ r h => by simp [tarnlaw11_ConfNodes.l1] at h, fun _ _ _ _ _ _ _ _ _ _ _ _ r h => by simp [tarnlaw11_ConfNodes.l2] at h, fun _ _ _ _ _ _ _ _ _ _ _ _ _ _ r h => by simp [tarnlaw11_ConfNodes.l3] at h, fun _ _ _ _ _ _ _ _ _ _ _ _ _ _ r h => by simp [tarnlaw11_ConfNodes.l4] at h⟩
  | k + 1 => by
    obtain ⟨ih0, ih1, ih2, ih3, ih4⟩ := tarnlaw11_ConfNodes.mono_l k
    refine ⟨?_, ?_, ?_, ?_, ?_⟩
    · intro y0 y1 y2 y3 y4 y5 y6 y7 y8 y9
      unfold tarnlaw11_ConfNodes.l0
      repeat' first
      | (with_reducible exact ih0 _ _ _ _ _ _ _ _ _ _)
      | (with_reducible exact ih1 _ _ _ _ _ _ _ _ _ _)
      | (with_reducible exact ih2 _ _ _ _ _ _ _ _ _ _ _ _)
      | (with_reducible exact ih3 _ _ _ _ _ _ _ _ _ _ _ _ _ _)
      | (with_reducible exact ih4 _ _ _ _ _ _ _ _ _ _ _ _ _ _)
      | (with_reducible exact conf_Behind.mono _ _ _ _ _ _ _)
      | (with_reducible exact conf_Chains.mono _ _ _ _ _ _ _)
      | (with_reducible exact conf_Mirrors.mono _ _ _ _ _ _ _)
      | (with_reducible exact tarnlaw11_Near.mono _ _ _ _ _ _ _)
      | (with_reducible exact tarnlaw11_awake.mono _)
      | (with_reducible exact LeO.refl _)
      | (with_reducible exact LeO.none _)
      | (with_reducible refine LeO.ite ?_ ?_)
      | (with_reducible refine LeO.bind ?_ (fun _ => ?_))
      | exact ih0 _ _ _ _ _ _ _ _ _ _
      | exact ih1 _ _ _ _ _ _ _ _ _ _
      | exact ih2 _ _ _ _ _ _ _ _ _ _ _ _
      | exact ih3 _ _ _ _ _ _ _ _ _ _ _ _ _ _
      | exact ih4 _ _ _ _ _ _ _ _ _ _ _ _ _ _
      | exact conf_Behind.mono _ _ _ _ _ _ _
      | exact conf_Chains.mono _ _ _ _ _ _ _
      | exact conf_Mirrors.mono _ _ _ _ _ _ _
      | exact tarnlaw11_Near.mono _ _ _ _ _ _ _
      | exact tarnlaw11_awake.mono _
      | exact LeO.none _
      | refine LeO.ite ?_ ?_
      | refine LeO.bind ?_ (fun _ => ?_)
    · intro y0 y1 y2 y3 y4 y5 y6 y7 y8 y9
      unfold tarnlaw11_ConfNodes.l1
      repeat' first
      | (with_reducible exact ih0 _ _ _ _ _ _ _ _ _ _)
      | (with_reducible exact ih1 _ _ _ _ _ _ _ _ _ _)
      | (with_reducible exact ih2 _ _ _ _ _ _ _ _ _ _ _ _)
      | (with_reducible exact ih3 _ _ _ _ _ _ _ _ _ _ _ _ _ _)
      | (with_reducible exact ih4 _ _ _ _ _ _ _ _ _ _ _ _ _ _)
      | (with_reducible exact conf_Behind.mono _ _ _ _ _ _ _)
      | (with_reducible exact conf_Chains.mono _ _ _ _ _ _ _)
      | (with_reducible exact conf_Mirrors.mono _ _ _ _ _ _ _)
      | (with_reducible exact tarnlaw11_Near.mono _ _ _ _ _ _ _)
      | (with_reducible exact tarnlaw11_awake.mono _)
      | (with_reducible exact LeO.refl _)
      | (with_reducible exact LeO.none _)
      | (with_reducible refine LeO.ite ?_ ?_)
      | (with_reducible refine LeO.bind ?_ (fun _ => ?_))
      | exact ih0 _ _ _ _ _ _ _ _ _ _
      | exact ih1 _ _ _ _ _ _ _ _ _ _
      | exact ih2 _ _ _ _ _ _ _ _ _ _ _ _
      | exact ih3 _ _ _ _ _ _ _ _ _ _ _ _ _ _
      | exact ih4 _ _ _ _ _ _ _ _ _ _ _ _ _ _
      | exact conf_Behind.mono _ _ _ _ _ _ _
      | exact conf_Chains.mono _ _ _ _ _ _ _
      | exact conf_Mirrors.mono _ _ _ _ _ _ _
      | exact tarnlaw11_Near.mono _ _ _ _ _ _ _
      | exact tarnlaw11_awake.mono _
      | exact LeO.none _
      | refine LeO.ite ?_ ?_
      | refine LeO.bind ?_ (fun _ => ?_)
    · intro y0 y1 y2 y3 y4 y5 y6 y7 y8 y9 y10 y11
      unfold tarnlaw11_ConfNodes.l2
      repeat' first
      | (with_reducible exact ih0 _ _ _ _ _ _ _ _ _ _)
      | (with_reducible exact ih1 _ _ _ _ _ _ _ _ _ _)
      | (with_reducible exact ih2 _ _ _ _ _ _ _ _ _ _ _ _)
      | (with_reducible exact ih3 _ _ _ _ _ _ _ _ _ _ _ _ _ _)
      | (with_reducible exact ih4 _ _ _ _ _ _ _ _ _ _ _ _ _ _)
      | (with_reducible exact conf_Behind.mono _ _ _ _ _ _ _)
      | (with_reducible exact conf_Chains.mono _ _ _ _ _ _ _)
      | (with_reducible exact conf_Mirrors.mono _ _ _ _ _ _ _)
      | (with_reducible exact tarnlaw11_Near.mono _ _ _ _ _ _ _)
      | (with_reducible exact tarnlaw11_awake.mono _)
      | (with_reducible exact LeO.refl _)
      | (with_reducible exact LeO.none _)
      | (with_reducible refine LeO.ite ?_ ?_)
      | (with_reducible refine LeO.bind ?_ (fun _ => ?_))
      | exact ih0 _ _ _ _ _ _ _ _ _ _
      | exact ih1 _ _ _ _ _ _ _ _ _ _
      | exact ih2 _ _ _ _ _ _ _ _ _ _ _ _
      | exact ih3 _ _ _ _ _ _ _ _ _ _ _ _ _ _
      | exact ih4 _ _ _ _ _ _ _ _ _ _ _ _ _ _
      | exact conf_Behind.mono _ _ _ _ _ _ _
      | exact conf_Chains.mono _ _ _ _ _ _ _
      | exact conf_Mirrors.mono _ _ _ _ _ _ _
      | exact tarnlaw11_Near.mono _ _ _ _ _ _ _
      | exact tarnlaw11_awake.mono _
      | exact LeO.none _
      | refine LeO.ite ?_ ?_
      | refine LeO.bind ?_ (fun _ => ?_)
    · intro y0 y1 y2 y3 y4 y5 y6 y7 y8 y9 y10 y11 y12 y13
      unfold tarnlaw11_ConfNodes.l3
      repeat' first
      | (with_reducible exact ih0 _ _ _ _ _ _ _ _ _ _)
      | (with_reducible exact ih1 _ _ _ _ _ _ _ _ _ _)
      | (with_reducible exact ih2 _ _ _ _ _ _ _ _ _ _ _ _)
      | (with_reducible exact ih3 _ _ _ _ _ _ _ _ _ _ _ _ _ _)
      | (with_reducible exact ih4 _ _ _ _ _ _ _ _ _ _ _ _ _ _)
      | (with_reducible exact conf_Behind.mono _ _ _ _ _ _ _)
      | (with_reducible exact conf_Chains.mono _ _ _ _ _ _ _)
      | (with_reducible exact conf_Mirrors.mono _ _ _ _ _ _ _)
      | (with_reducible exact tarnlaw11_Near.mono _ _ _ _ _ _ _)
      | (with_reducible exact tarnlaw11_awake.mono _)
      | (with_reducible exact LeO.refl _)
      | (with_reducible exact LeO.none _)
      | (with_reducible refine LeO.ite ?_ ?_)
      | (with_reducible refine LeO.bind ?_ (fun _ => ?_))
      | exact ih0 _ _ _ _ _ _ _ _ _ _
      | exact ih1 _ _ _ _ _ _ _ _ _ _
      | exact ih2 _ _ _ _ _ _ _ _ _ _ _ _
      | exact ih3 _ _ _ _ _ _ _ _ _ _ _ _ _ _
      | exact ih4 _ _ _ _ _ _ _ _ _ _ _ _ _ _
      | exact conf_Behind.mono _ _ _ _ _ _ _
      | exact conf_Chains.mono _ _ _ _ _ _ _
      | exact conf_Mirrors.mono _ _ _ _ _ _ _
      | exact tarnlaw11_Near.mono _ _ _ _ _ _ _
      | exact tarnlaw11_awake.mono _
      | exact LeO.none _
      | refine LeO.ite ?_ ?_
      | refine LeO.bind ?_ (fun _ => ?_)
    · intro y0 y1 y2 y3 y4 y5 y6 y7 y8 y9 y10 y11 y12 y13
      unfold tarnlaw11_ConfNodes.l4
      repeat' first
      | (with_reducible exact ih0 _ _ _ _ _ _ _ _ _ _)
      | (with_reducible exact ih1 _ _ _ _ _ _ _ _ _ _)
      | (with_reducible exact ih2 _ _ _ _ _ _ _ _ _ _ _ _)
      | (with_reducible exact ih3 _ _ _ _ _ _ _ _ _ _ _ _ _ _)
      | (with_reducible exact ih4 _ _ _ _ _ _ _ _ _ _ _ _ _ _)
      | (with_reducible exact conf_Behind.mono _ _ _ _ _ _ _)
      | (with_reducible exact conf_Chains.mono _ _ _ _ _ _ _)
      | (with_reducible exact conf_Mirrors.mono _ _ _ _ _ _ _)
      | (with_reducible exact tarnlaw11_Near.mono _ _ _ _ _ _ _)
      | (with_reducible exact tarnlaw11_awake.mono _)
      | (with_reducible exact LeO.refl _)
      | (with_reducible exact LeO.none _)
      | (with_reducible refine LeO.ite ?_ ?_)
      | (with_reducible refine LeO.bind ?_ (fun _ => ?_))
      | exact ih0 _ _ _ _ _ _ _ _ _ _
      | exact ih1 _ _ _ _ _ _ _ _ _ _
      | exact ih2 _ _ _ _ _ _ _ _ _ _ _ _
      | exact ih3 _ _ _ _ _ _ _ _ _ _ _ _ _ _
      | exact ih4 _ _ _ _ _ _ _ _ _ _ _ _ _ _
      | exact conf_Behind.mono _ _ _ _ _ _ _
      | exact conf_Chains.mono _ _ _ _ _ _ _
      | exact conf_Mirrors.mono _ _ _ _ _ _ _
      | exact tarnlaw11_Near.mono _ _ _ _ _ _ _
      | exact tarnlaw11_awake.mono _
      | exact LeO.none _
      | refine LeO.ite ?_ ?_
      | refine LeO.bind ?_ (fun _ => ?_)
theorem tarnlaw11_ConfNodes.mono : ∀ a0 a1 a2 a3 a4 a5 k, LeO (tarnlaw11_ConfNodes.f k a0 a1 a2 a3 a4 a5) (tarnlaw11_ConfNodes.f (k + 1) a0 a1 a2 a3 a4 a5) := by
  intro a0 a1 a2 a3 a4 a5 k
  obtain ⟨ih0, ih1, ih2, ih3, ih4⟩ := tarnlaw11_ConfNodes.mono_l k
  unfold tarnlaw11_ConfNodes.f
  repeat' first
      | (with_reducible exact ih0 _ _ _ _ _ _ _ _ _ _)
      | (with_reducible exact ih1 _ _ _ _ _ _ _ _ _ _)
      | (with_reducible exact ih2 _ _ _ _ _ _ _ _ _ _ _ _)
      | (with_reducible exact ih3 _ _ _ _ _ _ _ _ _ _ _ _ _ _)
      | (with_reducible exact ih4 _ _ _ _ _ _ _ _ _ _ _ _ _ _)
      | (with_reducible exact conf_Behind.mono _ _ _ _ _ _ _)
      | (with_reducible exact conf_Chains.mono _ _ _ _ _ _ _)
      | (with_reducible exact conf_Mirrors.mono _ _ _ _ _ _ _)
      | (with_reducible exact tarnlaw11_Near.mono _ _ _ _ _ _ _)
      | (with_reducible exact tarnlaw11_awake.mono _)
      | (with_reducible exact LeO.refl _)
      | (with_reducible exact LeO.none _)
      | (with_reducible refine LeO.ite ?_ ?_)
      | (with_reducible refine LeO.bind ?_ (fun _ => ?_))
      | exact ih0 _ _ _ _ _ _ _ _ _ _
      | exact ih1 _ _ _ _ _ _ _ _ _ _
      | exact ih2 _ _ _ _ _ _ _ _ _ _ _ _
      | exact ih3 _ _ _ _ _ _ _ _ _ _ _ _ _ _
      | exact ih4 _ _ _ _ _ _ _ _ _ _ _ _ _ _
      | exact conf_Behind.mono _ _ _ _ _ _ _
      | exact conf_Chains.mono _ _ _ _ _ _ _
      | exact conf_Mirrors.mono _ _ _ _ _ _ _
      | exact tarnlaw11_Near.mono _ _ _ _ _ _ _
      | exact tarnlaw11_awake.mono _
      | exact LeO.none _
      | refine LeO.ite ?_ ?_
      | refine LeO.bind ?_ (fun _ => ?_)
set_option maxHeartbeats 3000000 in
set_option maxRecDepth 100000 in
theorem tarnlaw11_ConfNodes.calls (k : Nat) (a0_0 : Int) (a0_1 : Int) (a0_2 : Int) (A0_3 : Option Addr) (c0_3 : Nat) (l0_3 : List Int) (A0_4 : Option Addr) (c0_4 : Nat) (l0_4 : List Int) (a1 : Int) (r : Bool) (w : World) (hr0_3 : Kd.C (Kd.int .i64) w A0_3 l0_3.length l0_3) (hc0_3 : l0_3.length ≤ c0_3) (hr0_4 : Kd.C (Kd.int .i64) w A0_4 l0_4.length l0_4) (hc0_4 : l0_4.length ≤ c0_4) (h : tarnlaw11_ConfNodes.f k a0_0 a0_1 a0_2 l0_3 l0_4 a1 = some r) :
    Calls Try.prog 6 #[.agg #[.int .i64 a0_0, .int .i64 a0_1, .int .i64 a0_2, .slice A0_3 l0_3.length c0_3, .slice A0_4 l0_4.length c0_4], .int .i64 a1] w fun e w' => e = .returned (.bool r) ∧ Below w.heap.size w w' := by
  have hu31 := Try.underlying31
  have HR0_3 := Aside0.mk hr0_3
  have HC0_3 := Aside0.mk hc0_3
  clear hr0_3 hc0_3
  have HR0_4 := Aside0.mk hr0_4
  have HC0_4 := Aside0.mk hc0_4
  clear hr0_4 hc0_4
  have HB := Aside0.mk (Below.refl w.heap.size w)
  have H : ((tarnlaw11_Near.f k a0_0 a0_1 a0_2 l0_3 l0_4 5).bind fun bt163 => (tarnlaw11_ConfNodes.l0 k a1 false false (-1) 0 bt163.1 bt163.2.1 bt163.2.2.1 bt163.2.2.2.1 bt163.2.2.2.2)) = some r := h
  clear h
  replace H := Option.bind_eq_some_iff.mp H
  obtain ⟨⟨t163, t164, t165, t166, t169⟩, A30, H⟩ := H
  replace H : (tarnlaw11_ConfNodes.l0 k a1 false false (-1) 0 t163 t164 t165 t166 t169) = some r := H
  have A3 := Aside0.mk A30
  clear A30
  have H' := Aside0.mk H
  clear H
  go_enter Try.func6, Try.ntmps6
  go_wp2_with (first | ((with_reducible refine gate_dst (N := 2) rfl ?_); (try (refine gate_guard (by rfl) ?_; dsimp only)); refine box_event ?hg (N := 2) ?hd (cs := #[.int .i64 a0_0, .int .i64 a0_1, .int .i64 a0_2, .slice A0_3 l0_3.length c0_3, .slice A0_4 l0_4.length c0_4]) (t := 31) ?hr ?_; (case hd => rfl); (case hg => rfl); (case hr => first | (go_simp; done) | (go_simp; rfl)); intro gb162 hg w4 hbox hb; have n0_ := Aside0.mk (below_step (by repeat (first | (with_reducible first | exact HB.out | apply below_alloc | apply pw_below_drewN | apply below_drew1) | exact HB.out)) hb); have n1_ := Aside0.mk (hbox); have n2_ := Aside0.mk ((by rw [hg]; exact (below_size (by repeat (first | (with_reducible first | exact HB.out | apply below_alloc | apply pw_below_drewN | apply below_drew1) | exact HB.out))) : w.heap.size ≤ gb162)); have n3_ := Aside0.mk ((by rw [hg]; exact (below_size (by repeat (first | (with_reducible first | exact HB.out | apply below_alloc | apply pw_below_drewN | apply below_drew1) | exact HB.out))) : w.heap.size ≤ gb162)); clear HB; have HB := n0_; have BK162 := n1_; have GW162 := n2_; have GE162 := n3_; clear n0_ n1_ n2_ n3_; clear hb hbox hg; have hcz5_0 : w4.cell? ⟨gb162, 0, none⟩ = some (.int .i64 a0_0) := (blk_cell BK162.out 0).trans rfl; have hcz5_1 : w4.cell? ⟨gb162, 1, none⟩ = some (.int .i64 a0_1) := (blk_cell BK162.out 1).trans rfl; have hcz5_2 : w4.cell? ⟨gb162, 2, none⟩ = some (.int .i64 a0_2) := (blk_cell BK162.out 2).trans rfl; have hcz5_3 : w4.cell? ⟨gb162, 3, none⟩ = some (.slice A0_3 l0_3.length c0_3) := (blk_cell BK162.out 3).trans rfl; have hcz5_4 : w4.cell? ⟨gb162, 4, none⟩ = some (.slice A0_4 l0_4.length c0_4) := (blk_cell BK162.out 4).trans rfl; have hfz5_0 := blk_frozen BK162.out 0; have hfz5_1 := blk_frozen BK162.out 1; have hfz5_2 := blk_frozen BK162.out 2; have hfz5_3 := blk_frozen BK162.out 3; have hfz5_4 := blk_frozen BK162.out 4) | ((with_reducible refine gate_callee (f := 26) rfl ?_); refine goesL_ (some 18) rfl rfl Try.func26 (by kernel_rfl) rfl #[.agg #[.int .i64 a0_0, .int .i64 a0_1, .int .i64 a0_2, .slice A0_3 l0_3.length c0_3, .slice A0_4 l0_4.length c0_4], .int .i64 5] rfl (by (try simp only [List.map_toArray, List.map_cons, List.map_nil]); first | done | rfl | (simp only [List.length_drop, List.length_take]; rfl)) ?_; (with_reducible refine (tarnlaw11_Near.calls k a0_0 a0_1 a0_2 _ _ l0_3 _ _ l0_4 5 t163 t164 t165 t166 t169 _ ?side1 ?side2 ?side3 ?side4 A3.out).mono ?_); (case side1 => repeat (first | exact (Kd.C_below HR0_3.out HB.out) | (with_reducible refine Kd.C_alloc ?_ _) | (with_reducible refine Kd.C_drewN ?_ _) | (with_reducible refine Kd.C_drew ?_))); (case side2 => exact HC0_3.out); (case side3 => repeat (first | exact (Kd.C_below HR0_4.out HB.out) | (with_reducible refine Kd.C_alloc ?_ _) | (with_reducible refine Kd.C_drewN ?_ _) | (with_reducible refine Kd.C_drew ?_))); (case side4 => exact HC0_4.out); rintro e w6 ⟨v167, v170, rfl, ho0, ho1, hb⟩; refine ⟨_, rfl, ?_⟩; have n0_ := Aside0.mk (Kd.R_lower ho0 (below_size (by repeat (first | (with_reducible first | exact HB.out | apply below_alloc | apply pw_below_drewN | apply below_drew1 | refine below_set ?_ GE162.out) | exact HB.out)))); have n1_ := Aside0.mk (Kd.R_lower ho1 (below_size (by repeat (first | (with_reducible first | exact HB.out | apply below_alloc | apply pw_below_drewN | apply below_drew1 | refine below_set ?_ GE162.out) | exact HB.out)))); have n2_ := Aside0.mk (blk_below (g := gb162) (o := .cells #[.int .i64 a0_0, .int .i64 a0_1, .int .i64 a0_2, .slice A0_3 l0_3.length c0_3, .slice A0_4 l0_4.length c0_4] 31 (0, 0)) (by (with_reducible repeat (first | refine blk_drewN ?_ _ | refine blk_drew ?_ | refine blk_alloc ?_ _)); exact BK162.out) hb); have n3_ := Aside0.mk (below_step (by repeat (first | (with_reducible first | exact HB.out | apply below_alloc | apply pw_below_drewN | apply below_drew1 | refine below_set ?_ GE162.out) | exact HB.out)) hb); clear BK162; clear HB; have HO168 := n0_; have HO171 := n1_; have BK162 := n2_; have HB := n3_; clear n0_ n1_ n2_ n3_; (try clear hb); (try clear hb2); (try clear hk); (try clear hi); (try clear ho0); (try clear ho1)) | ((with_reducible refine gate_dst (N := 5) rfl ?_); (try (refine gate_guard (by rfl) ?_; dsimp only)); refine box_event ?hg (N := 5) ?hd (cs := #[.int .i64 0, .int .i64 0, .int .i64 0, .slice none 0 0, .slice none 0 0]) (t := 31) ?hr ?_; (case hd => rfl); (case hg => rfl); (case hr => first | (go_simp; done) | (go_simp; rfl)); intro gb172 hg w7 hbox hb; have n0_ := Aside0.mk (Kd.R_below (by (with_reducible repeat (first | apply Kd.R_alloc | apply Kd.R_drewN | apply Kd.R_drew)); exact HO168.out) hb); have n1_ := Aside0.mk (Kd.R_below (by (with_reducible repeat (first | apply Kd.R_alloc | apply Kd.R_drewN | apply Kd.R_drew)); exact HO171.out) hb); have n2_ := Aside0.mk (blk_below (g := gb162) (o := .cells #[.int .i64 a0_0, .int .i64 a0_1, .int .i64 a0_2, .slice A0_3 l0_3.length c0_3, .slice A0_4 l0_4.length c0_4] 31 (0, 0)) (by (with_reducible repeat (first | refine blk_drewN ?_ _ | refine blk_drew ?_ | refine blk_alloc ?_ _)); exact BK162.out) hb); have n3_ := Aside0.mk (below_step (by repeat (first | (with_reducible first | exact HB.out | apply below_alloc | apply pw_below_drewN | apply below_drew1 | refine below_set ?_ GE162.out) | exact HB.out)) hb); have n4_ := Aside0.mk (hbox); have n5_ := Aside0.mk ((by rw [hg]; exact (below_size (by repeat (first | (with_reducible first | exact HB.out | apply below_alloc | apply pw_below_drewN | apply below_drew1 | refine below_set ?_ GE162.out) | exact HB.out))) : w.heap.size ≤ gb172)); have n6_ := Aside0.mk ((by rw [hg]; exact (below_size (by repeat (first | (with_reducible first | exact HB.out | apply below_alloc | apply pw_below_drewN | apply below_drew1 | refine below_set ?_ GE162.out) | exact HB.out))) : w.heap.size ≤ gb172)); have n7_ := Aside0.mk ((by rw [hg]; exact Nat.ne_of_lt (blk_lt (g := gb162) (o := .cells #[.int .i64 a0_0, .int .i64 a0_1, .int .i64 a0_2, .slice A0_3 l0_3.length c0_3, .slice A0_4 l0_4.length c0_4] 31 (0, 0)) (by (with_reducible repeat (first | refine blk_drewN ?_ _ | refine blk_drew ?_ | refine blk_alloc ?_ _)); exact BK162.out)) : gb162 ≠ gb172)); have n8_ := Aside0.mk ((by rw [hg]; exact Nat.ne_of_gt (blk_lt (g := gb162) (o := .cells #[.int .i64 a0_0, .int .i64 a0_1, .int .i64 a0_2, .slice A0_3 l0_3.length c0_3, .slice A0_4 l0_4.length c0_4] 31 (0, 0)) (by (with_reducible repeat (first | refine blk_drewN ?_ _ | refine blk_drew ?_ | refine blk_alloc ?_ _)); exact BK162.out)) : gb172 ≠ gb162)); clear HO168; clear HO171; clear BK162; clear HB; have HO168 := n0_; have HO171 := n1_; have BK162 := n2_; have HB := n3_; have BK172 := n4_; have GW172 := n5_; have GE172 := n6_; have NB162_172 := n7_; have NB172_162 := n8_; clear n0_ n1_ n2_ n3_ n4_ n5_ n6_ n7_ n8_; clear hb hbox hg; have hnb8 := NB172_162.out; have hnc8 := NB162_172.out; have hcz9_0 : w7.cell? ⟨gb172, 0, none⟩ = some (.int .i64 0) := (blk_cell BK172.out 0).trans rfl; have hcz9_1 : w7.cell? ⟨gb172, 1, none⟩ = some (.int .i64 0) := (blk_cell BK172.out 1).trans rfl; have hcz9_2 : w7.cell? ⟨gb172, 2, none⟩ = some (.int .i64 0) := (blk_cell BK172.out 2).trans rfl; have hcz9_3 : w7.cell? ⟨gb172, 3, none⟩ = some (.slice none 0 0) := (blk_cell BK172.out 3).trans rfl; have hcz9_4 : w7.cell? ⟨gb172, 4, none⟩ = some (.slice none 0 0) := (blk_cell BK172.out 4).trans rfl; have hfz9_0 := blk_frozen BK172.out 0; have hfz9_1 := blk_frozen BK172.out 1; have hfz9_2 := blk_frozen BK172.out 2; have hfz9_3 := blk_frozen BK172.out 3; have hfz9_4 := blk_frozen BK172.out 4; obtain ⟨Ao10, co10, eo10⟩ := Kd.R_slice HO168.out; subst eo10; obtain ⟨Ao11, co11, eo11⟩ := Kd.R_slice HO171.out; subst eo11) | ((with_reducible apply wpList_load_row (ty := 31) (g := gb162) (t := 31) (fr := (0, 0)) (hu := hu31)); (case hgd => with_reducible rfl); (case ho => with_reducible rfl); (case hx => rfl); (case hd => rfl); (case hg => (repeat (first | (with_reducible exact BK162.out) | (with_reducible refine blk_drewN ?_ _) | (with_reducible refine blk_drew ?_) | (with_reducible refine blk_alloc ?_ _) | (with_reducible apply blk_put) | (with_reducible refine blk_far ?_ (by assumption) _))); all_goals (simp only [List.setIfInBounds_toArray, List.set_cons_zero, List.set_cons_succ]; rfl)); (case hi => kernel_rfl)) | ((with_reducible apply wpList_store_sets (ty := 31) (g := gb162) (t := 31)); (case hgd => with_reducible rfl); (case ho => with_reducible rfl); (case hx => rfl); (case hy => rfl); (case hg => (repeat (first | (with_reducible exact BK162.out) | (with_reducible refine blk_drewN ?_ _) | (with_reducible refine blk_drew ?_) | (with_reducible refine blk_alloc ?_ _) | (with_reducible apply blk_put) | (with_reducible refine blk_far ?_ (by assumption) _))); all_goals (simp only [List.setIfInBounds_toArray, List.set_cons_zero, List.set_cons_succ]; rfl)); (case hi => kernel_rfl); (case hold => rfl); (case h1 => kernel_rfl); simp only [sets, List.toList_toArray, Nat.zero_add, Nat.reduceAdd]) | ((with_reducible apply wpList_load_row (ty := 31) (g := gb172) (t := 31) (fr := (0, 0)) (hu := hu31)); (case hgd => with_reducible rfl); (case ho => with_reducible rfl); (case hx => rfl); (case hd => rfl); (case hg => (repeat (first | (with_reducible exact BK172.out) | (with_reducible refine blk_drewN ?_ _) | (with_reducible refine blk_drew ?_) | (with_reducible refine blk_alloc ?_ _) | (with_reducible apply blk_put) | (with_reducible refine blk_far ?_ (by assumption) _))); all_goals (simp only [List.setIfInBounds_toArray, List.set_cons_zero, List.set_cons_succ]; rfl)); (case hi => kernel_rfl)) | ((with_reducible apply wpList_store_sets (ty := 31) (g := gb172) (t := 31)); (case hgd => with_reducible rfl); (case ho => with_reducible rfl); (case hx => rfl); (case hy => rfl); (case hg => (repeat (first | (with_reducible exact BK172.out) | (with_reducible refine blk_drewN ?_ _) | (with_reducible refine blk_drew ?_) | (with_reducible refine blk_alloc ?_ _) | (with_reducible apply blk_put) | (with_reducible refine blk_far ?_ (by assumption) _))); all_goals (simp only [List.setIfInBounds_toArray, List.set_cons_zero, List.set_cons_succ]; rfl)); (case hi => kernel_rfl); (case hold => rfl); (case h1 => kernel_rfl); simp only [sets, List.toList_toArray, Nat.zero_add, Nat.reduceAdd]))
  go_loopg [6, 9] k (fun kq v6 v9 w' => ∃ (x6_1 : Bool) (x9_1 : Int), v6 = .bool x6_1 ∧ v9 = .int .i64 x9_1 ∧ Aside0 (tarnlaw11_ConfNodes.l0 kq a1 x6_1 false (-1) x9_1 t163 t164 t165 t166 t169 = some r) ∧ Aside0 (kq ≤ k) ∧ Aside0 (Kd.R (Kd.int .i64) 3 w' w.heap.size (fun k_ => some k_ ≠ ((.slice Ao11 t169.length co11) : Value).ownBlock) (.slice Ao10 t166.length co10) t166) ∧ Aside0 (Kd.R (Kd.int .i64) 3 w' w.heap.size (fun k_ => some k_ ≠ ((.slice Ao10 t166.length co10) : Value).ownBlock) (.slice Ao11 t169.length co11) t169) ∧ Aside0 (w'.heap[gb162]? = some (.cells #[.int .i64 a0_0, .int .i64 a0_1, .int .i64 a0_2, (.slice A0_3 l0_3.length c0_3), (.slice A0_4 l0_4.length c0_4)] 31 (0, 0))) ∧ Aside0 (w'.heap[gb172]? = some (.cells #[.int .i64 t163, .int .i64 t164, .int .i64 t165, (.slice Ao10 t166.length co10), (.slice Ao11 t169.length co11)] 31 (0, 0))) ∧ Aside0 (Below w.heap.size w w'))
  case atStart => exact ⟨(false), (0), (by first | rfl | (simp; done) | (simp [*]; done)), (by first | rfl | (simp; done) | (simp [*]; done)), H', ⟨Nat.le_refl _⟩, ⟨by (with_reducible repeat (first | apply Kd.R_alloc | apply Kd.R_drewN | apply Kd.R_drew)); exact Kd.R_mono (Kd.R_far (p := ⟨gb172, 4, none⟩) (Kd.R_far (p := ⟨gb172, 3, none⟩) (Kd.R_far (p := ⟨gb172, 2, none⟩) (Kd.R_far (p := ⟨gb172, 1, none⟩) (Kd.R_far (p := ⟨gb172, 0, none⟩) (Kd.R_types HO168.out BK172.out (by decide)) (fun _ hk => hk.2) (.int .i64 t163)) (fun _ hk => hk.2) (.int .i64 t164)) (fun _ hk => hk.2) (.int .i64 t165)) (fun _ hk => hk.2) (.slice Ao10 t166.length co10)) (fun _ hk => hk.2) (.slice Ao11 t169.length co11)) (fun _ hk => hk.1)⟩, ⟨by (with_reducible repeat (first | apply Kd.R_alloc | apply Kd.R_drewN | apply Kd.R_drew)); exact Kd.R_mono (Kd.R_far (p := ⟨gb172, 4, none⟩) (Kd.R_far (p := ⟨gb172, 3, none⟩) (Kd.R_far (p := ⟨gb172, 2, none⟩) (Kd.R_far (p := ⟨gb172, 1, none⟩) (Kd.R_far (p := ⟨gb172, 0, none⟩) (Kd.R_types HO171.out BK172.out (by decide)) (fun _ hk => hk.2) (.int .i64 t163)) (fun _ hk => hk.2) (.int .i64 t164)) (fun _ hk => hk.2) (.int .i64 t165)) (fun _ hk => hk.2) (.slice Ao10 t166.length co10)) (fun _ hk => hk.2) (.slice Ao11 t169.length co11)) (fun _ hk => hk.1)⟩, ⟨by (with_reducible repeat (first | refine blk_drewN ?_ _ | refine blk_drew ?_ | refine blk_alloc ?_ _)); refine blk_far ?_ NB162_172.out _; (with_reducible repeat (first | refine blk_drewN ?_ _ | refine blk_drew ?_ | refine blk_alloc ?_ _)); refine blk_far ?_ NB162_172.out _; (with_reducible repeat (first | refine blk_drewN ?_ _ | refine blk_drew ?_ | refine blk_alloc ?_ _)); refine blk_far ?_ NB162_172.out _; (with_reducible repeat (first | refine blk_drewN ?_ _ | refine blk_drew ?_ | refine blk_alloc ?_ _)); refine blk_far ?_ NB162_172.out _; (with_reducible repeat (first | refine blk_drewN ?_ _ | refine blk_drew ?_ | refine blk_alloc ?_ _)); refine blk_far ?_ NB162_172.out _; (with_reducible repeat (first | refine blk_drewN ?_ _ | refine blk_drew ?_ | refine blk_alloc ?_ _)); exact BK162.out⟩, ⟨by (with_reducible repeat (first | refine blk_drewN ?_ _ | refine blk_drew ?_ | refine blk_alloc ?_ _)); refine blk_put (cs := #[.int .i64 t163, .int .i64 t164, .int .i64 t165, .slice Ao10 t166.length co10, .slice none 0 0]) ?_ 4 _ rfl; (with_reducible repeat (first | refine blk_drewN ?_ _ | refine blk_drew ?_ | refine blk_alloc ?_ _)); refine blk_put (cs := #[.int .i64 t163, .int .i64 t164, .int .i64 t165, .slice none 0 0, .slice none 0 0]) ?_ 3 _ rfl; (with_reducible repeat (first | refine blk_drewN ?_ _ | refine blk_drew ?_ | refine blk_alloc ?_ _)); refine blk_put (cs := #[.int .i64 t163, .int .i64 t164, .int .i64 0, .slice none 0 0, .slice none 0 0]) ?_ 2 _ rfl; (with_reducible repeat (first | refine blk_drewN ?_ _ | refine blk_drew ?_ | refine blk_alloc ?_ _)); refine blk_put (cs := #[.int .i64 t163, .int .i64 0, .int .i64 0, .slice none 0 0, .slice none 0 0]) ?_ 1 _ rfl; (with_reducible repeat (first | refine blk_drewN ?_ _ | refine blk_drew ?_ | refine blk_alloc ?_ _)); refine blk_put (cs := #[.int .i64 0, .int .i64 0, .int .i64 0, .slice none 0 0, .slice none 0 0]) ?_ 0 _ rfl; (with_reducible repeat (first | refine blk_drewN ?_ _ | refine blk_drew ?_ | refine blk_alloc ?_ _)); exact BK172.out⟩, ⟨by repeat (first | (with_reducible first | exact HB.out | apply below_alloc | apply pw_below_drewN | apply below_drew1 | refine below_set ?_ GE162.out | refine below_set ?_ GE172.out) | exact HB.out)⟩⟩
  case round =>
    clear H'
    try clear c2
    try clear p2
    try clear c6
    try clear c8
    try clear hcz5_0
    try clear hcz5_1
    try clear hcz5_2
    try clear hcz5_3
    try clear hcz5_4
    try clear hcz9_0
    try clear hcz9_1
    try clear hcz9_2
    try clear hcz9_3
    try clear hcz9_4
    try clear hfz5_0
    try clear hfz5_1
    try clear hfz5_2
    try clear hfz5_3
    try clear hfz5_4
    try clear hfz9_0
    try clear hfz9_1
    try clear hfz9_2
    try clear hfz9_3
    try clear hfz9_4
    obtain ⟨x6_1, x9_1, rfl, rfl, HA, HK1, HO_173003, HO_173004, BK162, BK172, HB⟩ := hrel
    cases gk with
    | zero => exact absurd HA.out (by simp [tarnlaw11_ConfNodes.l0])
    | succ k1 =>
      have H := HA.out
      clear HA
      simp only [tarnlaw11_ConfNodes.l0] at H
      by_cases c12 : x9_1 < (t166.length : Int)
      · rw [if_pos c12] at H
        have c12b0 : decide (x9_1 < (t166.length : Int)) = true := decide_eq_true c12
        clear c12
        by_cases c13 : x6_1 = true
        · subst c13
          have H1 : (tarnlaw11_ConfNodes.l0 k1 a1 true false (-1) (wrap64 (x9_1 + 1)) t163 t164 t165 t166 t169) = some r := by rw [if_pos rfl] at H; exact H
          clear H
          have H := H1
          clear H1
          have H' := Aside0.mk H
          clear H
          have hnb14 := NB172_162.out
          have hnc14 := NB162_172.out
          have hcz15_0 : wr.cell? ⟨gb172, 0, none⟩ = some (.int .i64 t163) := (blk_cell BK172.out 0).trans rfl
          have hcz15_1 : wr.cell? ⟨gb172, 1, none⟩ = some (.int .i64 t164) := (blk_cell BK172.out 1).trans rfl
          have hcz15_2 : wr.cell? ⟨gb172, 2, none⟩ = some (.int .i64 t165) := (blk_cell BK172.out 2).trans rfl
          have hcz15_3 : wr.cell? ⟨gb172, 3, none⟩ = some (.slice Ao10 t166.length co10) := (blk_cell BK172.out 3).trans rfl
          have hcz15_4 : wr.cell? ⟨gb172, 4, none⟩ = some (.slice Ao11 t169.length co11) := (blk_cell BK172.out 4).trans rfl
          have hfz15_0 := blk_frozen BK172.out 0
          have hfz15_1 := blk_frozen BK172.out 1
          have hfz15_2 := blk_frozen BK172.out 2
          have hfz15_3 := blk_frozen BK172.out 3
          have hfz15_4 := blk_frozen BK172.out 4
          go_wp2
          go_roundg k1
          case measure => have := HK1.out; omega
          case rel => exact ⟨(true), (wrap64 (x9_1 + 1)), (by first | rfl | (simp; done) | (simp [*]; done)), (by first | rfl | (simp; done) | (simp [*]; done)), H', ⟨by have := HK1.out; omega⟩, ⟨by (with_reducible repeat (first | apply Kd.R_alloc | apply Kd.R_drewN | apply Kd.R_drew)); exact HO_173003.out⟩, ⟨by (with_reducible repeat (first | apply Kd.R_alloc | apply Kd.R_drewN | apply Kd.R_drew)); exact HO_173004.out⟩, ⟨by (with_reducible repeat (first | refine blk_drewN ?_ _ | refine blk_drew ?_ | refine blk_alloc ?_ _)); exact BK162.out⟩, ⟨by (with_reducible repeat (first | refine blk_drewN ?_ _ | refine blk_drew ?_ | refine blk_alloc ?_ _)); exact BK172.out⟩, ⟨by repeat (first | (with_reducible first | exact HB.out | apply below_alloc | apply pw_below_drewN | apply below_drew1 | refine below_set ?_ GE162.out | refine below_set ?_ GE172.out) | exact HB.out)⟩⟩
        · replace c13 := Bool.eq_false_iff.mpr c13
          subst c13
          have H1 : (if 0 ≤ x9_1 then (tarnlaw11_ConfNodes.l0 k1 a1 ((rd t166 x9_1) == a1) false (-1) (wrap64 (x9_1 + 1)) t163 t164 t165 t166 t169) else (none)) = some r := by rw [if_neg (show ¬ (false = true) by decide)] at H; exact H
          clear H
          have H := H1
          clear H1
          by_cases c16 : 0 ≤ x9_1
          · rw [if_pos c16] at H
            have c16b0 : decide (0 ≤ x9_1) = true := decide_eq_true c16
            clear c16
            have H' := Aside0.mk H
            clear H
            have hnb17 := NB172_162.out
            have hnc17 := NB162_172.out
            have hcz18_0 : wr.cell? ⟨gb172, 0, none⟩ = some (.int .i64 t163) := (blk_cell BK172.out 0).trans rfl
            have hcz18_1 : wr.cell? ⟨gb172, 1, none⟩ = some (.int .i64 t164) := (blk_cell BK172.out 1).trans rfl
            have hcz18_2 : wr.cell? ⟨gb172, 2, none⟩ = some (.int .i64 t165) := (blk_cell BK172.out 2).trans rfl
            have hcz18_3 : wr.cell? ⟨gb172, 3, none⟩ = some (.slice Ao10 t166.length co10) := (blk_cell BK172.out 3).trans rfl
            have hcz18_4 : wr.cell? ⟨gb172, 4, none⟩ = some (.slice Ao11 t169.length co11) := (blk_cell BK172.out 4).trans rfl
            have hfz18_0 := blk_frozen BK172.out 0
            have hfz18_1 := blk_frozen BK172.out 1
            have hfz18_2 := blk_frozen BK172.out 2
            have hfz18_3 := blk_frozen BK172.out 3
            have hfz18_4 := blk_frozen BK172.out 4
            have p173 : 0 ≤ (x9_1 : Int) := of_decide_eq_true (by first | (with_reducible assumption) | assumption)
            have q173 : x9_1 < (t166.length : Int) := of_decide_eq_true (by first | (with_reducible assumption) | assumption)
            obtain ⟨ad173, e173, hx173_0⟩ := Kd.at_int (Kd.R_reads' HO_173003.out).2.2 x9_1 p173 q173
            cases e173
            replace p173 := eq_true p173
            replace q173 := eq_true q173
            go_wp2
            go_roundg k1
            case measure => have := HK1.out; omega
            case rel => exact ⟨(((rd t166 x9_1) == a1)), (wrap64 (x9_1 + 1)), (by first | rfl | (simp; done) | (simp [*]; done)), (by first | rfl | (simp; done) | (simp [*]; done)), H', ⟨by have := HK1.out; omega⟩, ⟨by (with_reducible repeat (first | apply Kd.R_alloc | apply Kd.R_drewN | apply Kd.R_drew)); exact HO_173003.out⟩, ⟨by (with_reducible repeat (first | apply Kd.R_alloc | apply Kd.R_drewN | apply Kd.R_drew)); exact HO_173004.out⟩, ⟨by (with_reducible repeat (first | refine blk_drewN ?_ _ | refine blk_drew ?_ | refine blk_alloc ?_ _)); exact BK162.out⟩, ⟨by (with_reducible repeat (first | refine blk_drewN ?_ _ | refine blk_drew ?_ | refine blk_alloc ?_ _)); exact BK172.out⟩, ⟨by repeat (first | (with_reducible first | exact HB.out | apply below_alloc | apply pw_below_drewN | apply below_drew1 | refine below_set ?_ GE162.out | refine below_set ?_ GE172.out) | exact HB.out)⟩⟩
          · rw [if_neg c16] at H
            exact absurd H (by simp)
      · rw [if_neg c12] at H
        have c12b0 : decide (x9_1 < (t166.length : Int)) = false := decide_eq_false c12
        clear c12
        have H' := Aside0.mk H
        clear H
        have hnb19 := NB172_162.out
        have hnc19 := NB162_172.out
        have hcz20_0 : wr.cell? ⟨gb172, 0, none⟩ = some (.int .i64 t163) := (blk_cell BK172.out 0).trans rfl
        have hcz20_1 : wr.cell? ⟨gb172, 1, none⟩ = some (.int .i64 t164) := (blk_cell BK172.out 1).trans rfl
        have hcz20_2 : wr.cell? ⟨gb172, 2, none⟩ = some (.int .i64 t165) := (blk_cell BK172.out 2).trans rfl
        have hcz20_3 : wr.cell? ⟨gb172, 3, none⟩ = some (.slice Ao10 t166.length co10) := (blk_cell BK172.out 3).trans rfl
        have hcz20_4 : wr.cell? ⟨gb172, 4, none⟩ = some (.slice Ao11 t169.length co11) := (blk_cell BK172.out 4).trans rfl
        have hfz20_0 := blk_frozen BK172.out 0
        have hfz20_1 := blk_frozen BK172.out 1
        have hfz20_2 := blk_frozen BK172.out 2
        have hfz20_3 := blk_frozen BK172.out 3
        have hfz20_4 := blk_frozen BK172.out 4
        go_wp2
        go_loopg [7, 8, 10] k1 (fun kq v7 v8 v10 w' => ∃ (x7_2 : Bool) (x8_2 : Int) (x10_2 : Int), v7 = .bool x7_2 ∧ v8 = .int .i64 x8_2 ∧ v10 = .int .i64 x10_2 ∧ Aside0 (tarnlaw11_ConfNodes.l1 kq a1 x6_1 x7_2 x8_2 x10_2 t163 t164 t165 t166 t169 = some r) ∧ Aside0 (kq ≤ k1) ∧ Aside0 (Kd.R (Kd.int .i64) 3 w' w.heap.size (fun k_ => some k_ ≠ ((.slice Ao11 t169.length co11) : Value).ownBlock) (.slice Ao10 t166.length co10) t166) ∧ Aside0 (Kd.R (Kd.int .i64) 3 w' w.heap.size (fun k_ => some k_ ≠ ((.slice Ao10 t166.length co10) : Value).ownBlock) (.slice Ao11 t169.length co11) t169) ∧ Aside0 (w'.heap[gb162]? = some (.cells #[.int .i64 a0_0, .int .i64 a0_1, .int .i64 a0_2, (.slice A0_3 l0_3.length c0_3), (.slice A0_4 l0_4.length c0_4)] 31 (0, 0))) ∧ Aside0 (w'.heap[gb172]? = some (.cells #[.int .i64 t163, .int .i64 t164, .int .i64 t165, (.slice Ao10 t166.length co10), (.slice Ao11 t169.length co11)] 31 (0, 0))) ∧ Aside0 (Below w.heap.size w w'))
        case atStart => exact ⟨(false), ((-1)), (0), (by first | rfl | (simp; done) | (simp [*]; done)), (by first | rfl | (simp; done) | (simp [*]; done)), (by first | rfl | (simp; done) | (simp [*]; done)), H', ⟨Nat.le_refl _⟩, ⟨by (with_reducible repeat (first | apply Kd.R_alloc | apply Kd.R_drewN | apply Kd.R_drew)); exact HO_173003.out⟩, ⟨by (with_reducible repeat (first | apply Kd.R_alloc | apply Kd.R_drewN | apply Kd.R_drew)); exact HO_173004.out⟩, ⟨by (with_reducible repeat (first | refine blk_drewN ?_ _ | refine blk_drew ?_ | refine blk_alloc ?_ _)); exact BK162.out⟩, ⟨by (with_reducible repeat (first | refine blk_drewN ?_ _ | refine blk_drew ?_ | refine blk_alloc ?_ _)); exact BK172.out⟩, ⟨by repeat (first | (with_reducible first | exact HB.out | apply below_alloc | apply pw_below_drewN | apply below_drew1 | refine below_set ?_ GE162.out | refine below_set ?_ GE172.out) | exact HB.out)⟩⟩
        case round =>
          clear H'
          try clear c1
          try clear p1
          try clear q1
          try clear hx1
          try clear c2
          try clear p2
          try clear c6
          try clear p6
          try clear c8
          try clear c12
          try clear c12b0
          try clear c13
          try clear c14
          try clear c16
          try clear c16b0
          try clear c17
          try clear p17
          try clear q17
          try clear hx17
          try clear c19
          try clear hcz15_0
          try clear hcz15_1
          try clear hcz15_2
          try clear hcz15_3
          try clear hcz15_4
          try clear hcz18_0
          try clear hcz18_1
          try clear hcz18_2
          try clear hcz18_3
          try clear hcz18_4
          try clear hcz20_0
          try clear hcz20_1
          try clear hcz20_2
          try clear hcz20_3
          try clear hcz20_4
          try clear hcz5_0
          try clear hcz5_1
          try clear hcz5_2
          try clear hcz5_3
          try clear hcz5_4
          try clear hcz9_0
          try clear hcz9_1
          try clear hcz9_2
          try clear hcz9_3
          try clear hcz9_4
          try clear hfz15_0
          try clear hfz15_1
          try clear hfz15_2
          try clear hfz15_3
          try clear hfz15_4
          try clear hfz18_0
          try clear hfz18_1
          try clear hfz18_2
          try clear hfz18_3
          try clear hfz18_4
          try clear hfz20_0
          try clear hfz20_1
          try clear hfz20_2
          try clear hfz20_3
          try clear hfz20_4
          try clear hfz5_0
          try clear hfz5_1
          try clear hfz5_2
          try clear hfz5_3
          try clear hfz5_4
          try clear hfz9_0
          try clear hfz9_1
          try clear hfz9_2
          try clear hfz9_3
          try clear hfz9_4
          try clear hx173_0
          try clear p173
          try clear p2
          try clear q173
          obtain ⟨x7_2, x8_2, x10_2, rfl, rfl, rfl, HA, HK2, HO_173003, HO_173004, BK162, BK172, HB⟩ := hrel
          cases gk with
          | zero => exact absurd HA.out (by simp [tarnlaw11_ConfNodes.l1])
          | succ k2 =>
            have H := HA.out
            clear HA
            simp only [tarnlaw11_ConfNodes.l1] at H
            by_cases c21 : x10_2 < (t169.length : Int)
            · rw [if_pos c21] at H
              have c21b0 : decide (x10_2 < (t169.length : Int)) = true := decide_eq_true c21
              clear c21
              by_cases c22 : x7_2 = true
              · subst c22
                have H1 : (if 0 ≤ x10_2 then (if (rd t169 x10_2) = a1 then (if (wrap64 (x10_2 + 1)) < (t169.length : Int) then (if 0 ≤ (wrap64 (x10_2 + 1)) then (tarnlaw11_ConfNodes.l1 k2 a1 x6_1 true (rd t169 (wrap64 (x10_2 + 1))) (wrap64 (x10_2 + 1)) t163 t164 t165 t166 t169) else (none)) else (tarnlaw11_ConfNodes.l1 k2 a1 x6_1 true x8_2 (wrap64 (x10_2 + 1)) t163 t164 t165 t166 t169)) else (tarnlaw11_ConfNodes.l1 k2 a1 x6_1 true x8_2 (wrap64 (x10_2 + 1)) t163 t164 t165 t166 t169)) else (none)) = some r := by rw [if_pos rfl] at H; exact H
                clear H
                have H := H1
                clear H1
                by_cases c23 : 0 ≤ x10_2
                · rw [if_pos c23] at H
                  have c23b0 : decide (0 ≤ x10_2) = true := decide_eq_true c23
                  clear c23
                  by_cases c24 : (rd t169 x10_2) = a1
                  · rw [if_pos c24] at H
                    have c24b0 : ((rd t169 x10_2) == a1) = true := beq_iff_eq.mpr c24
                    have c24b1 : ((rd t169 x10_2) != a1) = false := bne_eq_false_iff_eq.mpr c24
                    clear c24
                    by_cases c25 : (wrap64 (x10_2 + 1)) < (t169.length : Int)
                    · rw [if_pos c25] at H
                      have c25b0 : decide ((wrap64 (x10_2 + 1)) < (t169.length : Int)) = true := decide_eq_true c25
                      clear c25
                      obtain ⟨ji26, hji26⟩ : ∃ j_ : Int, (wrap64 (x10_2 + 1)) = j_ := ⟨_, rfl⟩
                      replace H : (if 0 ≤ (ji26) then (tarnlaw11_ConfNodes.l1 k2 a1 x6_1 true (rd t169 (ji26)) ji26 t163 t164 t165 t166 t169) else (none)) = some r := by first | (rw [hji26] at H; exact H) | (simp only [hji26] at H ⊢; exact H)
                      (try rw [hji26] at c25b0)
                      have hji26w : (IntKind.i64.wrap (x10_2 + 1)) = ji26 := (i64_w _).trans hji26
                      by_cases c27 : 0 ≤ (ji26)
                      · rw [if_pos c27] at H
                        have c27b0 : decide (0 ≤ (ji26)) = true := decide_eq_true c27
                        clear c27
                        have H' := Aside0.mk H
                        clear H
                        have hnb28 := NB172_162.out
                        have hnc28 := NB162_172.out
                        have hcz29_0 : wr.cell? ⟨gb172, 0, none⟩ = some (.int .i64 t163) := (blk_cell BK172.out 0).trans rfl
                        have hcz29_1 : wr.cell? ⟨gb172, 1, none⟩ = some (.int .i64 t164) := (blk_cell BK172.out 1).trans rfl
                        have hcz29_2 : wr.cell? ⟨gb172, 2, none⟩ = some (.int .i64 t165) := (blk_cell BK172.out 2).trans rfl
                        have hcz29_3 : wr.cell? ⟨gb172, 3, none⟩ = some (.slice Ao10 t166.length co10) := (blk_cell BK172.out 3).trans rfl
                        have hcz29_4 : wr.cell? ⟨gb172, 4, none⟩ = some (.slice Ao11 t169.length co11) := (blk_cell BK172.out 4).trans rfl
                        have hfz29_0 := blk_frozen BK172.out 0
                        have hfz29_1 := blk_frozen BK172.out 1
                        have hfz29_2 := blk_frozen BK172.out 2
                        have hfz29_3 := blk_frozen BK172.out 3
                        have hfz29_4 := blk_frozen BK172.out 4
                        have p174 : 0 ≤ (x10_2 : Int) := of_decide_eq_true (by first | (with_reducible assumption) | assumption)
                        have q174 : x10_2 < (t169.length : Int) := of_decide_eq_true (by first | (with_reducible assumption) | assumption)
                        obtain ⟨ad174, e174, hx174_0⟩ := Kd.at_int (Kd.R_reads' HO_173004.out).2.2 x10_2 p174 q174
                        cases e174
                        replace p174 := eq_true p174
                        replace q174 := eq_true q174
                        have p175 : 0 ≤ ((ji26) : Int) := of_decide_eq_true (by first | (with_reducible assumption) | assumption)
                        have q175 : (ji26) < (t169.length : Int) := of_decide_eq_true (by first | (with_reducible assumption) | assumption)
                        obtain ⟨ad175, e175, hx175_0⟩ := Kd.at_int (Kd.R_reads' HO_173004.out).2.2 (ji26) p175 q175
                        obtain rfl : ad174 = ad175 := (by injection e175)
                        replace p175 := eq_true p175
                        replace q175 := eq_true q175
                        go_wp2
                        go_roundg k2
                        case measure => have := HK1.out; have := HK2.out; omega
                        case rel => exact ⟨(true), (rd t169 (ji26)), (ji26), (by first | rfl | (simp; done) | (simp [*]; done)), (by first | rfl | (simp; done) | (simp only [← hji26] <;> (first | rfl | simp)) | (simp [*]; done)), (by first | rfl | (simp; done) | (simp only [← hji26] <;> (first | rfl | simp)) | (simp [*]; done)), H', ⟨by have := HK1.out; have := HK2.out; omega⟩, ⟨by (with_reducible repeat (first | apply Kd.R_alloc | apply Kd.R_drewN | apply Kd.R_drew)); exact HO_173003.out⟩, ⟨by (with_reducible repeat (first | apply Kd.R_alloc | apply Kd.R_drewN | apply Kd.R_drew)); exact HO_173004.out⟩, ⟨by (with_reducible repeat (first | refine blk_drewN ?_ _ | refine blk_drew ?_ | refine blk_alloc ?_ _)); exact BK162.out⟩, ⟨by (with_reducible repeat (first | refine blk_drewN ?_ _ | refine blk_drew ?_ | refine blk_alloc ?_ _)); exact BK172.out⟩, ⟨by repeat (first | (with_reducible first | exact HB.out | apply below_alloc | apply pw_below_drewN | apply below_drew1 | refine below_set ?_ GE162.out | refine below_set ?_ GE172.out) | exact HB.out)⟩⟩
                      · rw [if_neg c27] at H
                        exact absurd H (by simp)
                    · rw [if_neg c25] at H
                      have c25b0 : decide ((wrap64 (x10_2 + 1)) < (t169.length : Int)) = false := decide_eq_false c25
                      clear c25
                      have H' := Aside0.mk H
                      clear H
                      have hnb30 := NB172_162.out
                      have hnc30 := NB162_172.out
                      have hcz31_0 : wr.cell? ⟨gb172, 0, none⟩ = some (.int .i64 t163) := (blk_cell BK172.out 0).trans rfl
                      have hcz31_1 : wr.cell? ⟨gb172, 1, none⟩ = some (.int .i64 t164) := (blk_cell BK172.out 1).trans rfl
                      have hcz31_2 : wr.cell? ⟨gb172, 2, none⟩ = some (.int .i64 t165) := (blk_cell BK172.out 2).trans rfl
                      have hcz31_3 : wr.cell? ⟨gb172, 3, none⟩ = some (.slice Ao10 t166.length co10) := (blk_cell BK172.out 3).trans rfl
                      have hcz31_4 : wr.cell? ⟨gb172, 4, none⟩ = some (.slice Ao11 t169.length co11) := (blk_cell BK172.out 4).trans rfl
                      have hfz31_0 := blk_frozen BK172.out 0
                      have hfz31_1 := blk_frozen BK172.out 1
                      have hfz31_2 := blk_frozen BK172.out 2
                      have hfz31_3 := blk_frozen BK172.out 3
                      have hfz31_4 := blk_frozen BK172.out 4
                      have p174 : 0 ≤ (x10_2 : Int) := of_decide_eq_true (by first | (with_reducible assumption) | assumption)
                      have q174 : x10_2 < (t169.length : Int) := of_decide_eq_true (by first | (with_reducible assumption) | assumption)
                      obtain ⟨ad174, e174, hx174_0⟩ := Kd.at_int (Kd.R_reads' HO_173004.out).2.2 x10_2 p174 q174
                      cases e174
                      replace p174 := eq_true p174
                      replace q174 := eq_true q174
                      go_wp2
                      go_roundg k2
                      case measure => have := HK1.out; have := HK2.out; omega
                      case rel => exact ⟨(true), (x8_2), (wrap64 (x10_2 + 1)), (by first | rfl | (simp; done) | (simp [*]; done)), (by first | rfl | (simp; done) | (simp [*]; done)), (by first | rfl | (simp; done) | (simp [*]; done)), H', ⟨by have := HK1.out; have := HK2.out; omega⟩, ⟨by (with_reducible repeat (first | apply Kd.R_alloc | apply Kd.R_drewN | apply Kd.R_drew)); exact HO_173003.out⟩, ⟨by (with_reducible repeat (first | apply Kd.R_alloc | apply Kd.R_drewN | apply Kd.R_drew)); exact HO_173004.out⟩, ⟨by (with_reducible repeat (first | refine blk_drewN ?_ _ | refine blk_drew ?_ | refine blk_alloc ?_ _)); exact BK162.out⟩, ⟨by (with_reducible repeat (first | refine blk_drewN ?_ _ | refine blk_drew ?_ | refine blk_alloc ?_ _)); exact BK172.out⟩, ⟨by repeat (first | (with_reducible first | exact HB.out | apply below_alloc | apply pw_below_drewN | apply below_drew1 | refine below_set ?_ GE162.out | refine below_set ?_ GE172.out) | exact HB.out)⟩⟩
                  · rw [if_neg c24] at H
                    have c24b0 : ((rd t169 x10_2) == a1) = false := beq_eq_false_iff_ne.mpr c24
                    have c24b1 : ((rd t169 x10_2) != a1) = true := bne_iff_ne.mpr c24
                    have H' := Aside0.mk H
                    clear H
                    have hnb32 := NB172_162.out
                    have hnc32 := NB162_172.out
                    have hcz33_0 : wr.cell? ⟨gb172, 0, none⟩ = some (.int .i64 t163) := (blk_cell BK172.out 0).trans rfl
                    have hcz33_1 : wr.cell? ⟨gb172, 1, none⟩ = some (.int .i64 t164) := (blk_cell BK172.out 1).trans rfl
                    have hcz33_2 : wr.cell? ⟨gb172, 2, none⟩ = some (.int .i64 t165) := (blk_cell BK172.out 2).trans rfl
                    have hcz33_3 : wr.cell? ⟨gb172, 3, none⟩ = some (.slice Ao10 t166.length co10) := (blk_cell BK172.out 3).trans rfl
                    have hcz33_4 : wr.cell? ⟨gb172, 4, none⟩ = some (.slice Ao11 t169.length co11) := (blk_cell BK172.out 4).trans rfl
                    have hfz33_0 := blk_frozen BK172.out 0
                    have hfz33_1 := blk_frozen BK172.out 1
                    have hfz33_2 := blk_frozen BK172.out 2
                    have hfz33_3 := blk_frozen BK172.out 3
                    have hfz33_4 := blk_frozen BK172.out 4
                    have p174 : 0 ≤ (x10_2 : Int) := of_decide_eq_true (by first | (with_reducible assumption) | assumption)
                    have q174 : x10_2 < (t169.length : Int) := of_decide_eq_true (by first | (with_reducible assumption) | assumption)
                    obtain ⟨ad174, e174, hx174_0⟩ := Kd.at_int (Kd.R_reads' HO_173004.out).2.2 x10_2 p174 q174
                    cases e174
                    replace p174 := eq_true p174
                    replace q174 := eq_true q174
                    go_wp2
                    go_roundg k2
                    case measure => have := HK1.out; have := HK2.out; omega
                    case rel => exact ⟨(true), (x8_2), (wrap64 (x10_2 + 1)), (by first | rfl | (simp; done) | (simp [*]; done)), (by first | rfl | (simp; done) | (simp [*]; done)), (by first | rfl | (simp; done) | (simp [*]; done)), H', ⟨by have := HK1.out; have := HK2.out; omega⟩, ⟨by (with_reducible repeat (first | apply Kd.R_alloc | apply Kd.R_drewN | apply Kd.R_drew)); exact HO_173003.out⟩, ⟨by (with_reducible repeat (first | apply Kd.R_alloc | apply Kd.R_drewN | apply Kd.R_drew)); exact HO_173004.out⟩, ⟨by (with_reducible repeat (first | refine blk_drewN ?_ _ | refine blk_drew ?_ | refine blk_alloc ?_ _)); exact BK162.out⟩, ⟨by (with_reducible repeat (first | refine blk_drewN ?_ _ | refine blk_drew ?_ | refine blk_alloc ?_ _)); exact BK172.out⟩, ⟨by repeat (first | (with_reducible first | exact HB.out | apply below_alloc | apply pw_below_drewN | apply below_drew1 | refine below_set ?_ GE162.out | refine below_set ?_ GE172.out) | exact HB.out)⟩⟩
                · rw [if_neg c23] at H
                  exact absurd H (by simp)
              · replace c22 := Bool.eq_false_iff.mpr c22
                subst c22
                have H1 : (if 0 ≤ x10_2 then (if (rd t169 x10_2) = a1 then (if (wrap64 (x10_2 + 1)) < (t169.length : Int) then (if 0 ≤ (wrap64 (x10_2 + 1)) then (tarnlaw11_ConfNodes.l1 k2 a1 x6_1 ((rd t169 x10_2) == a1) (rd t169 (wrap64 (x10_2 + 1))) (wrap64 (x10_2 + 1)) t163 t164 t165 t166 t169) else (none)) else (tarnlaw11_ConfNodes.l1 k2 a1 x6_1 ((rd t169 x10_2) == a1) x8_2 (wrap64 (x10_2 + 1)) t163 t164 t165 t166 t169)) else (tarnlaw11_ConfNodes.l1 k2 a1 x6_1 ((rd t169 x10_2) == a1) x8_2 (wrap64 (x10_2 + 1)) t163 t164 t165 t166 t169)) else (none)) = some r := by rw [if_neg (show ¬ (false = true) by decide)] at H; exact H
                clear H
                have H := H1
                clear H1
                by_cases c34 : 0 ≤ x10_2
                · rw [if_pos c34] at H
                  have c34b0 : decide (0 ≤ x10_2) = true := decide_eq_true c34
                  clear c34
                  by_cases c35 : (rd t169 x10_2) = a1
                  · rw [if_pos c35] at H
                    have c35b0 : ((rd t169 x10_2) == a1) = true := beq_iff_eq.mpr c35
                    have c35b1 : ((rd t169 x10_2) != a1) = false := bne_eq_false_iff_eq.mpr c35
                    clear c35
                    by_cases c36 : (wrap64 (x10_2 + 1)) < (t169.length : Int)
                    · rw [if_pos c36] at H
                      have c36b0 : decide ((wrap64 (x10_2 + 1)) < (t169.length : Int)) = true := decide_eq_true c36
                      clear c36
                      obtain ⟨ji37, hji37⟩ : ∃ j_ : Int, (wrap64 (x10_2 + 1)) = j_ := ⟨_, rfl⟩
                      replace H : (if 0 ≤ (ji37) then (tarnlaw11_ConfNodes.l1 k2 a1 x6_1 ((rd t169 x10_2) == a1) (rd t169 (ji37)) ji37 t163 t164 t165 t166 t169) else (none)) = some r := by first | (rw [hji37] at H; exact H) | (simp only [hji37] at H ⊢; exact H)
                      (try rw [hji37] at c36b0)
                      have hji37w : (IntKind.i64.wrap (x10_2 + 1)) = ji37 := (i64_w _).trans hji37
                      by_cases c38 : 0 ≤ (ji37)
                      · rw [if_pos c38] at H
                        have c38b0 : decide (0 ≤ (ji37)) = true := decide_eq_true c38
                        clear c38
                        have H' := Aside0.mk H
                        clear H
                        have hnb39 := NB172_162.out
                        have hnc39 := NB162_172.out
                        have hcz40_0 : wr.cell? ⟨gb172, 0, none⟩ = some (.int .i64 t163) := (blk_cell BK172.out 0).trans rfl
                        have hcz40_1 : wr.cell? ⟨gb172, 1, none⟩ = some (.int .i64 t164) := (blk_cell BK172.out 1).trans rfl
                        have hcz40_2 : wr.cell? ⟨gb172, 2, none⟩ = some (.int .i64 t165) := (blk_cell BK172.out 2).trans rfl
                        have hcz40_3 : wr.cell? ⟨gb172, 3, none⟩ = some (.slice Ao10 t166.length co10) := (blk_cell BK172.out 3).trans rfl
                        have hcz40_4 : wr.cell? ⟨gb172, 4, none⟩ = some (.slice Ao11 t169.length co11) := (blk_cell BK172.out 4).trans rfl
                        have hfz40_0 := blk_frozen BK172.out 0
                        have hfz40_1 := blk_frozen BK172.out 1
                        have hfz40_2 := blk_frozen BK172.out 2
                        have hfz40_3 := blk_frozen BK172.out 3
                        have hfz40_4 := blk_frozen BK172.out 4
                        have p176 : 0 ≤ (x10_2 : Int) := of_decide_eq_true (by first | (with_reducible assumption) | assumption)
                        have q176 : x10_2 < (t169.length : Int) := of_decide_eq_true (by first | (with_reducible assumption) | assumption)
                        obtain ⟨ad176, e176, hx176_0⟩ := Kd.at_int (Kd.R_reads' HO_173004.out).2.2 x10_2 p176 q176
                        cases e176
                        replace p176 := eq_true p176
                        replace q176 := eq_true q176
                        have p177 : 0 ≤ (x10_2 : Int) := of_decide_eq_true (by first | (with_reducible assumption) | assumption)
                        have q177 : x10_2 < (t169.length : Int) := of_decide_eq_true (by first | (with_reducible assumption) | assumption)
                        obtain ⟨ad177, e177, hx177_0⟩ := Kd.at_int (Kd.R_reads' HO_173004.out).2.2 x10_2 p177 q177
                        obtain rfl : ad176 = ad177 := (by injection e177)
                        replace p177 := eq_true p177
                        replace q177 := eq_true q177
                        have p178 : 0 ≤ ((ji37) : Int) := of_decide_eq_true (by first | (with_reducible assumption) | assumption)
                        have q178 : (ji37) < (t169.length : Int) := of_decide_eq_true (by first | (with_reducible assumption) | assumption)
                        obtain ⟨ad178, e178, hx178_0⟩ := Kd.at_int (Kd.R_reads' HO_173004.out).2.2 (ji37) p178 q178
                        obtain rfl : ad176 = ad178 := (by injection e178)
                        replace p178 := eq_true p178
                        replace q178 := eq_true q178
                        go_wp2
                        go_roundg k2
                        case measure => have := HK1.out; have := HK2.out; omega
                        case rel => exact ⟨(((rd t169 x10_2) == a1)), (rd t169 (ji37)), (ji37), (by first | rfl | (simp; done) | (simp [*]; done)), (by first | rfl | (simp; done) | (simp only [← hji37] <;> (first | rfl | simp)) | (simp [*]; done)), (by first | rfl | (simp; done) | (simp only [← hji37] <;> (first | rfl | simp)) | (simp [*]; done)), H', ⟨by have := HK1.out; have := HK2.out; omega⟩, ⟨by (with_reducible repeat (first | apply Kd.R_alloc | apply Kd.R_drewN | apply Kd.R_drew)); exact HO_173003.out⟩, ⟨by (with_reducible repeat (first | apply Kd.R_alloc | apply Kd.R_drewN | apply Kd.R_drew)); exact HO_173004.out⟩, ⟨by (with_reducible repeat (first | refine blk_drewN ?_ _ | refine blk_drew ?_ | refine blk_alloc ?_ _)); exact BK162.out⟩, ⟨by (with_reducible repeat (first | refine blk_drewN ?_ _ | refine blk_drew ?_ | refine blk_alloc ?_ _)); exact BK172.out⟩, ⟨by repeat (first | (with_reducible first | exact HB.out | apply below_alloc | apply pw_below_drewN | apply below_drew1 | refine below_set ?_ GE162.out | refine below_set ?_ GE172.out) | exact HB.out)⟩⟩
                      · rw [if_neg c38] at H
                        exact absurd H (by simp)
                    · rw [if_neg c36] at H
                      have c36b0 : decide ((wrap64 (x10_2 + 1)) < (t169.length : Int)) = false := decide_eq_false c36
                      clear c36
                      have H' := Aside0.mk H
                      clear H
                      have hnb41 := NB172_162.out
                      have hnc41 := NB162_172.out
                      have hcz42_0 : wr.cell? ⟨gb172, 0, none⟩ = some (.int .i64 t163) := (blk_cell BK172.out 0).trans rfl
                      have hcz42_1 : wr.cell? ⟨gb172, 1, none⟩ = some (.int .i64 t164) := (blk_cell BK172.out 1).trans rfl
                      have hcz42_2 : wr.cell? ⟨gb172, 2, none⟩ = some (.int .i64 t165) := (blk_cell BK172.out 2).trans rfl
                      have hcz42_3 : wr.cell? ⟨gb172, 3, none⟩ = some (.slice Ao10 t166.length co10) := (blk_cell BK172.out 3).trans rfl
                      have hcz42_4 : wr.cell? ⟨gb172, 4, none⟩ = some (.slice Ao11 t169.length co11) := (blk_cell BK172.out 4).trans rfl
                      have hfz42_0 := blk_frozen BK172.out 0
                      have hfz42_1 := blk_frozen BK172.out 1
                      have hfz42_2 := blk_frozen BK172.out 2
                      have hfz42_3 := blk_frozen BK172.out 3
                      have hfz42_4 := blk_frozen BK172.out 4
                      have p176 : 0 ≤ (x10_2 : Int) := of_decide_eq_true (by first | (with_reducible assumption) | assumption)
                      have q176 : x10_2 < (t169.length : Int) := of_decide_eq_true (by first | (with_reducible assumption) | assumption)
                      obtain ⟨ad176, e176, hx176_0⟩ := Kd.at_int (Kd.R_reads' HO_173004.out).2.2 x10_2 p176 q176
                      cases e176
                      replace p176 := eq_true p176
                      replace q176 := eq_true q176
                      have p177 : 0 ≤ (x10_2 : Int) := of_decide_eq_true (by first | (with_reducible assumption) | assumption)
                      have q177 : x10_2 < (t169.length : Int) := of_decide_eq_true (by first | (with_reducible assumption) | assumption)
                      obtain ⟨ad177, e177, hx177_0⟩ := Kd.at_int (Kd.R_reads' HO_173004.out).2.2 x10_2 p177 q177
                      obtain rfl : ad176 = ad177 := (by injection e177)
                      replace p177 := eq_true p177
                      replace q177 := eq_true q177
                      go_wp2
                      go_roundg k2
                      case measure => have := HK1.out; have := HK2.out; omega
                      case rel => exact ⟨(((rd t169 x10_2) == a1)), (x8_2), (wrap64 (x10_2 + 1)), (by first | rfl | (simp; done) | (simp [*]; done)), (by first | rfl | (simp; done) | (simp [*]; done)), (by first | rfl | (simp; done) | (simp [*]; done)), H', ⟨by have := HK1.out; have := HK2.out; omega⟩, ⟨by (with_reducible repeat (first | apply Kd.R_alloc | apply Kd.R_drewN | apply Kd.R_drew)); exact HO_173003.out⟩, ⟨by (with_reducible repeat (first | apply Kd.R_alloc | apply Kd.R_drewN | apply Kd.R_drew)); exact HO_173004.out⟩, ⟨by (with_reducible repeat (first | refine blk_drewN ?_ _ | refine blk_drew ?_ | refine blk_alloc ?_ _)); exact BK162.out⟩, ⟨by (with_reducible repeat (first | refine blk_drewN ?_ _ | refine blk_drew ?_ | refine blk_alloc ?_ _)); exact BK172.out⟩, ⟨by repeat (first | (with_reducible first | exact HB.out | apply below_alloc | apply pw_below_drewN | apply below_drew1 | refine below_set ?_ GE162.out | refine below_set ?_ GE172.out) | exact HB.out)⟩⟩
                  · rw [if_neg c35] at H
                    have c35b0 : ((rd t169 x10_2) == a1) = false := beq_eq_false_iff_ne.mpr c35
                    have c35b1 : ((rd t169 x10_2) != a1) = true := bne_iff_ne.mpr c35
                    have H' := Aside0.mk H
                    clear H
                    have hnb43 := NB172_162.out
                    have hnc43 := NB162_172.out
                    have hcz44_0 : wr.cell? ⟨gb172, 0, none⟩ = some (.int .i64 t163) := (blk_cell BK172.out 0).trans rfl
                    have hcz44_1 : wr.cell? ⟨gb172, 1, none⟩ = some (.int .i64 t164) := (blk_cell BK172.out 1).trans rfl
                    have hcz44_2 : wr.cell? ⟨gb172, 2, none⟩ = some (.int .i64 t165) := (blk_cell BK172.out 2).trans rfl
                    have hcz44_3 : wr.cell? ⟨gb172, 3, none⟩ = some (.slice Ao10 t166.length co10) := (blk_cell BK172.out 3).trans rfl
                    have hcz44_4 : wr.cell? ⟨gb172, 4, none⟩ = some (.slice Ao11 t169.length co11) := (blk_cell BK172.out 4).trans rfl
                    have hfz44_0 := blk_frozen BK172.out 0
                    have hfz44_1 := blk_frozen BK172.out 1
                    have hfz44_2 := blk_frozen BK172.out 2
                    have hfz44_3 := blk_frozen BK172.out 3
                    have hfz44_4 := blk_frozen BK172.out 4
                    have p176 : 0 ≤ (x10_2 : Int) := of_decide_eq_true (by first | (with_reducible assumption) | assumption)
                    have q176 : x10_2 < (t169.length : Int) := of_decide_eq_true (by first | (with_reducible assumption) | assumption)
                    obtain ⟨ad176, e176, hx176_0⟩ := Kd.at_int (Kd.R_reads' HO_173004.out).2.2 x10_2 p176 q176
                    cases e176
                    replace p176 := eq_true p176
                    replace q176 := eq_true q176
                    have p177 : 0 ≤ (x10_2 : Int) := of_decide_eq_true (by first | (with_reducible assumption) | assumption)
                    have q177 : x10_2 < (t169.length : Int) := of_decide_eq_true (by first | (with_reducible assumption) | assumption)
                    obtain ⟨ad177, e177, hx177_0⟩ := Kd.at_int (Kd.R_reads' HO_173004.out).2.2 x10_2 p177 q177
                    obtain rfl : ad176 = ad177 := (by injection e177)
                    replace p177 := eq_true p177
                    replace q177 := eq_true q177
                    go_wp2
                    go_roundg k2
                    case measure => have := HK1.out; have := HK2.out; omega
                    case rel => exact ⟨(((rd t169 x10_2) == a1)), (x8_2), (wrap64 (x10_2 + 1)), (by first | rfl | (simp; done) | (simp [*]; done)), (by first | rfl | (simp; done) | (simp [*]; done)), (by first | rfl | (simp; done) | (simp [*]; done)), H', ⟨by have := HK1.out; have := HK2.out; omega⟩, ⟨by (with_reducible repeat (first | apply Kd.R_alloc | apply Kd.R_drewN | apply Kd.R_drew)); exact HO_173003.out⟩, ⟨by (with_reducible repeat (first | apply Kd.R_alloc | apply Kd.R_drewN | apply Kd.R_drew)); exact HO_173004.out⟩, ⟨by (with_reducible repeat (first | refine blk_drewN ?_ _ | refine blk_drew ?_ | refine blk_alloc ?_ _)); exact BK162.out⟩, ⟨by (with_reducible repeat (first | refine blk_drewN ?_ _ | refine blk_drew ?_ | refine blk_alloc ?_ _)); exact BK172.out⟩, ⟨by repeat (first | (with_reducible first | exact HB.out | apply below_alloc | apply pw_below_drewN | apply below_drew1 | refine below_set ?_ GE162.out | refine below_set ?_ GE172.out) | exact HB.out)⟩⟩
                · rw [if_neg c34] at H
                  exact absurd H (by simp)
            · rw [if_neg c21] at H
              have c21b0 : decide (x10_2 < (t169.length : Int)) = false := decide_eq_false c21
              clear c21
              replace H := Option.bind_eq_some_iff.mp H
              obtain ⟨t179, A450, H⟩ := H
              replace H : (tarnlaw11_ConfNodes.l2 k2 a1 x6_1 x7_2 x8_2 t179 0 0 t163 t164 t165 t166 t169) = some r := H
              have A45 := Aside0.mk A450
              clear A450
              have H' := Aside0.mk H
              clear H
              have hnb46 := NB172_162.out
              have hnc46 := NB162_172.out
              have hcz47_0 : wr.cell? ⟨gb172, 0, none⟩ = some (.int .i64 t163) := (blk_cell BK172.out 0).trans rfl
              have hcz47_1 : wr.cell? ⟨gb172, 1, none⟩ = some (.int .i64 t164) := (blk_cell BK172.out 1).trans rfl
              have hcz47_2 : wr.cell? ⟨gb172, 2, none⟩ = some (.int .i64 t165) := (blk_cell BK172.out 2).trans rfl
              have hcz47_3 : wr.cell? ⟨gb172, 3, none⟩ = some (.slice Ao10 t166.length co10) := (blk_cell BK172.out 3).trans rfl
              have hcz47_4 : wr.cell? ⟨gb172, 4, none⟩ = some (.slice Ao11 t169.length co11) := (blk_cell BK172.out 4).trans rfl
              have hfz47_0 := blk_frozen BK172.out 0
              have hfz47_1 := blk_frozen BK172.out 1
              have hfz47_2 := blk_frozen BK172.out 2
              have hfz47_3 := blk_frozen BK172.out 3
              have hfz47_4 := blk_frozen BK172.out 4
              go_wp2_with (first | ((with_reducible refine gate_callee (f := 41) rfl ?_); refine goesL_ (some 75) rfl rfl Try.func41 (by kernel_rfl) rfl #[.agg #[.int .i64 t163, .int .i64 t164, .int .i64 t165, .slice Ao10 t166.length co10, .slice Ao11 t169.length co11]] rfl (by (try simp only [List.map_toArray, List.map_cons, List.map_nil]); first | done | rfl | (simp only [List.length_drop, List.length_take]; rfl)) ?_; (with_reducible refine (conf_All.calls t163 t164 t165 _ _ t166 _ _ t169 t179 _ ?side1 ?side2 ?side3 ?side4 A45.out).mono ?_); (case side1 => repeat (first | exact (Kd.R_reads' HO_173003.out).2.2 | (with_reducible refine Kd.C_alloc ?_ _) | (with_reducible refine Kd.C_drewN ?_ _) | (with_reducible refine Kd.C_drew ?_))); (case side2 => exact (Kd.R_reads' HO_173003.out).2.1); (case side3 => repeat (first | exact (Kd.R_reads' HO_173004.out).2.2 | (with_reducible refine Kd.C_alloc ?_ _) | (with_reducible refine Kd.C_drewN ?_ _) | (with_reducible refine Kd.C_drew ?_))); (case side4 => exact (Kd.R_reads' HO_173004.out).2.1); rintro e w48 ⟨v180, rfl, ho0, hb⟩; refine ⟨_, rfl, ?_⟩; have n0_ := Aside0.mk (Kd.R_elder' (by (with_reducible repeat (first | apply Kd.R_alloc | apply Kd.R_drewN | apply Kd.R_drew)); exact HO_173003.out) (Kd.R_base ho0) hb); have n1_ := Aside0.mk (Kd.R_elder' (by (with_reducible repeat (first | apply Kd.R_alloc | apply Kd.R_drewN | apply Kd.R_drew)); exact HO_173004.out) (Kd.R_base ho0) hb); have n2_ := Aside0.mk (Kd.R_lower (Kd.R_new' (Kd.R_new' ho0 (Kd.R_lt (by (with_reducible repeat (first | apply Kd.R_alloc | apply Kd.R_drewN | apply Kd.R_drew)); exact HO_173003.out))) (Kd.R_lt (by (with_reducible repeat (first | apply Kd.R_alloc | apply Kd.R_drewN | apply Kd.R_drew)); exact HO_173004.out))) (below_size (by repeat (first | (with_reducible first | exact HB.out | apply below_alloc | apply pw_below_drewN | apply below_drew1 | refine below_set ?_ GE162.out | refine below_set ?_ GE172.out) | exact HB.out)))); have n3_ := Aside0.mk (blk_below (g := gb162) (o := .cells #[.int .i64 a0_0, .int .i64 a0_1, .int .i64 a0_2, .slice A0_3 l0_3.length c0_3, .slice A0_4 l0_4.length c0_4] 31 (0, 0)) (by (with_reducible repeat (first | refine blk_drewN ?_ _ | refine blk_drew ?_ | refine blk_alloc ?_ _)); exact BK162.out) hb); have n4_ := Aside0.mk (blk_below (g := gb172) (o := .cells #[.int .i64 t163, .int .i64 t164, .int .i64 t165, .slice Ao10 t166.length co10, .slice Ao11 t169.length co11] 31 (0, 0)) (by (with_reducible repeat (first | refine blk_drewN ?_ _ | refine blk_drew ?_ | refine blk_alloc ?_ _)); exact BK172.out) hb); have n5_ := Aside0.mk (below_step (by repeat (first | (with_reducible first | exact HB.out | apply below_alloc | apply pw_below_drewN | apply below_drew1 | refine below_set ?_ GE162.out | refine below_set ?_ GE172.out) | exact HB.out)) hb); clear HO_173003; clear HO_173004; clear BK162; clear BK172; clear HB; have HO_173003 := n0_; have HO_173004 := n1_; have HO181 := n2_; have BK162 := n3_; have BK172 := n4_; have HB := n5_; clear n0_ n1_ n2_ n3_ n4_ n5_; (try clear hb); (try clear hb2); (try clear hk); (try clear hi); (try clear ho0)))
              go_loopg [12, 13] k2 (fun kq v12 v13 w' => ∃ (x12_3 : Int) (x13_3 : Int), v12 = .int .i64 x12_3 ∧ v13 = .int .i64 x13_3 ∧ Aside0 (tarnlaw11_ConfNodes.l2 kq a1 x6_1 x7_2 x8_2 t179 x12_3 x13_3 t163 t164 t165 t166 t169 = some r) ∧ Aside0 (kq ≤ k2) ∧ Aside0 (Kd.R (Kd.int .i64) 3 w' w.heap.size (fun k_ => some k_ ≠ ((.slice Ao10 t166.length co10) : Value).ownBlock ∧ some k_ ≠ ((.slice Ao11 t169.length co11) : Value).ownBlock) v180 t179) ∧ Aside0 (Kd.R (Kd.int .i64) 3 w' w.heap.size (fun k_ => some k_ ≠ (v180 : Value).ownBlock ∧ some k_ ≠ ((.slice Ao11 t169.length co11) : Value).ownBlock) (.slice Ao10 t166.length co10) t166) ∧ Aside0 (Kd.R (Kd.int .i64) 3 w' w.heap.size (fun k_ => some k_ ≠ (v180 : Value).ownBlock ∧ some k_ ≠ ((.slice Ao10 t166.length co10) : Value).ownBlock) (.slice Ao11 t169.length co11) t169) ∧ Aside0 (w'.heap[gb162]? = some (.cells #[.int .i64 a0_0, .int .i64 a0_1, .int .i64 a0_2, (.slice A0_3 l0_3.length c0_3), (.slice A0_4 l0_4.length c0_4)] 31 (0, 0))) ∧ Aside0 (w'.heap[gb172]? = some (.cells #[.int .i64 t163, .int .i64 t164, .int .i64 t165, (.slice Ao10 t166.length co10), (.slice Ao11 t169.length co11)] 31 (0, 0))) ∧ Aside0 (Below w.heap.size w w'))
              case atStart => exact ⟨(0), (0), (by first | rfl | (simp; done) | (simp [*]; done)), (by first | rfl | (simp; done) | (simp [*]; done)), H', ⟨Nat.le_refl _⟩, ⟨by (with_reducible repeat (first | apply Kd.R_alloc | apply Kd.R_drewN | apply Kd.R_drew)); exact Kd.R_mono HO181.out (fun _ hk => ⟨hk.1.2, hk.2⟩)⟩, ⟨by (with_reducible repeat (first | apply Kd.R_alloc | apply Kd.R_drewN | apply Kd.R_drew)); exact Kd.R_mono HO_173003.out (fun _ hk => ⟨hk.2, hk.1⟩)⟩, ⟨by (with_reducible repeat (first | apply Kd.R_alloc | apply Kd.R_drewN | apply Kd.R_drew)); exact Kd.R_mono HO_173004.out (fun _ hk => ⟨hk.2, hk.1⟩)⟩, ⟨by (with_reducible repeat (first | refine blk_drewN ?_ _ | refine blk_drew ?_ | refine blk_alloc ?_ _)); exact BK162.out⟩, ⟨by (with_reducible repeat (first | refine blk_drewN ?_ _ | refine blk_drew ?_ | refine blk_alloc ?_ _)); exact BK172.out⟩, ⟨by repeat (first | (with_reducible first | exact HB.out | apply below_alloc | apply pw_below_drewN | apply below_drew1 | refine below_set ?_ GE162.out | refine below_set ?_ GE172.out) | exact HB.out)⟩⟩
              case round =>
                clear H'
                try clear c1
                try clear p1
                try clear q1
                try clear hx1
                try clear c2
                try clear p2
                try clear c3
                try clear c4
                try clear c6
                try clear p6
                try clear c8
                try clear c12
                try clear c12b0
                try clear c13
                try clear c14
                try clear c16
                try clear c16b0
                try clear c17
                try clear p17
                try clear q17
                try clear hx17
                try clear c19
                try clear c21
                try clear c21b0
                try clear c22
                try clear c23
                try clear c23b0
                try clear c24
                try clear c24b0
                try clear c24b1
                try clear c25
                try clear c25b0
                try clear c26
                try clear c27
                try clear c27b0
                try clear c28
                try clear c30
                try clear c32
                try clear c34
                try clear c34b0
                try clear c35
                try clear c35b0
                try clear c35b1
                try clear c36
                try clear c36b0
                try clear c38
                try clear c38b0
                try clear c39
                try clear c41
                try clear c43
                try clear c46
                try clear hcz15_0
                try clear hcz15_1
                try clear hcz15_2
                try clear hcz15_3
                try clear hcz15_4
                try clear hcz18_0
                try clear hcz18_1
                try clear hcz18_2
                try clear hcz18_3
                try clear hcz18_4
                try clear hcz20_0
                try clear hcz20_1
                try clear hcz20_2
                try clear hcz20_3
                try clear hcz20_4
                try clear hcz29_0
                try clear hcz29_1
                try clear hcz29_2
                try clear hcz29_3
                try clear hcz29_4
                try clear hcz31_0
                try clear hcz31_1
                try clear hcz31_2
                try clear hcz31_3
                try clear hcz31_4
                try clear hcz33_0
                try clear hcz33_1
                try clear hcz33_2
                try clear hcz33_3
                try clear hcz33_4
                try clear hcz40_0
                try clear hcz40_1
                try clear hcz40_2
                try clear hcz40_3
                try clear hcz40_4
                try clear hcz42_0
                try clear hcz42_1
                try clear hcz42_2
                try clear hcz42_3
                try clear hcz42_4
                try clear hcz44_0
                try clear hcz44_1
                try clear hcz44_2
                try clear hcz44_3
                try clear hcz44_4
                try clear hcz47_0
                try clear hcz47_1
                try clear hcz47_2
                try clear hcz47_3
                try clear hcz47_4
                try clear hcz5_0
                try clear hcz5_1
                try clear hcz5_2
                try clear hcz5_3
                try clear hcz5_4
                try clear hcz9_0
                try clear hcz9_1
                try clear hcz9_2
                try clear hcz9_3
                try clear hcz9_4
                try clear hfz15_0
                try clear hfz15_1
                try clear hfz15_2
                try clear hfz15_3
                try clear hfz15_4
                try clear hfz18_0
                try clear hfz18_1
                try clear hfz18_2
                try clear hfz18_3
                try clear hfz18_4
                try clear hfz20_0
                try clear hfz20_1
                try clear hfz20_2
                try clear hfz20_3
                try clear hfz20_4
                try clear hfz29_0
                try clear hfz29_1
                try clear hfz29_2
                try clear hfz29_3
                try clear hfz29_4
                try clear hfz31_0
                try clear hfz31_1
                try clear hfz31_2
                try clear hfz31_3
                try clear hfz31_4
                try clear hfz33_0
                try clear hfz33_1
                try clear hfz33_2
                try clear hfz33_3
                try clear hfz33_4
                try clear hfz40_0
                try clear hfz40_1
                try clear hfz40_2
                try clear hfz40_3
                try clear hfz40_4
                try clear hfz42_0
                try clear hfz42_1
                try clear hfz42_2
                try clear hfz42_3
                try clear hfz42_4
                try clear hfz44_0
                try clear hfz44_1
                try clear hfz44_2
                try clear hfz44_3
                try clear hfz44_4
                try clear hfz47_0
                try clear hfz47_1
                try clear hfz47_2
                try clear hfz47_3
                try clear hfz47_4
                try clear hfz5_0
                try clear hfz5_1
                try clear hfz5_2
                try clear hfz5_3
                try clear hfz5_4
                try clear hfz9_0
                try clear hfz9_1
                try clear hfz9_2
                try clear hfz9_3
                try clear hfz9_4
                try clear hx173_0
                try clear hx174_0
                try clear hx175_0
                try clear hx176_0
                try clear hx177_0
                try clear hx178_0
                try clear p1
                try clear p17
                try clear p173
                try clear p174
                try clear p175
                try clear p176
                try clear p177
                try clear p178
                try clear p2
                try clear p6
                try clear q1
                try clear q17
                try clear q173
                try clear q174
                try clear q175
                try clear q176
                try clear q177
                try clear q178
                obtain ⟨x12_3, x13_3, rfl, rfl, HA, HK3, HO_11, HO_173003, HO_173004, BK162, BK172, HB⟩ := hrel
                cases gk with
                | zero => exact absurd HA.out (by simp [tarnlaw11_ConfNodes.l2])
                | succ k3 =>
                  have H := HA.out
                  clear HA
                  simp only [tarnlaw11_ConfNodes.l2] at H
                  by_cases c49 : x13_3 < 5
                  · rw [if_pos c49] at H
                    have c49b0 : decide (x13_3 < 5) = true := decide_eq_true c49
                    clear c49
                    have H' := Aside0.mk H
                    clear H
                    go_wp2
                    go_loopg [14, 15] k3 (fun kq v14 v15 w' => ∃ (x14_4 : Bool) (x15_4 : Int), v14 = .bool x14_4 ∧ v15 = .int .i64 x15_4 ∧ Aside0 (tarnlaw11_ConfNodes.l3 kq a1 x6_1 x7_2 x8_2 t179 x12_3 x13_3 x14_4 x15_4 t163 t164 t165 t166 t169 = some r) ∧ Aside0 (kq ≤ k3) ∧ Aside0 (Kd.R (Kd.int .i64) 3 w' w.heap.size (fun k_ => some k_ ≠ ((.slice Ao10 t166.length co10) : Value).ownBlock ∧ some k_ ≠ ((.slice Ao11 t169.length co11) : Value).ownBlock) v180 t179) ∧ Aside0 (Kd.R (Kd.int .i64) 3 w' w.heap.size (fun k_ => some k_ ≠ (v180 : Value).ownBlock ∧ some k_ ≠ ((.slice Ao11 t169.length co11) : Value).ownBlock) (.slice Ao10 t166.length co10) t166) ∧ Aside0 (Kd.R (Kd.int .i64) 3 w' w.heap.size (fun k_ => some k_ ≠ (v180 : Value).ownBlock ∧ some k_ ≠ ((.slice Ao10 t166.length co10) : Value).ownBlock) (.slice Ao11 t169.length co11) t169) ∧ Aside0 (w'.heap[gb162]? = some (.cells #[.int .i64 a0_0, .int .i64 a0_1, .int .i64 a0_2, (.slice A0_3 l0_3.length c0_3), (.slice A0_4 l0_4.length c0_4)] 31 (0, 0))) ∧ Aside0 (w'.heap[gb172]? = some (.cells #[.int .i64 t163, .int .i64 t164, .int .i64 t165, (.slice Ao10 t166.length co10), (.slice Ao11 t169.length co11)] 31 (0, 0))) ∧ Aside0 (Below w.heap.size w w'))
                    case atStart => exact ⟨(false), (0), (by first | rfl | (simp; done) | (simp [*]; done)), (by first | rfl | (simp; done) | (simp [*]; done)), H', ⟨Nat.le_refl _⟩, ⟨by (with_reducible repeat (first | apply Kd.R_alloc | apply Kd.R_drewN | apply Kd.R_drew)); exact HO_11.out⟩, ⟨by (with_reducible repeat (first | apply Kd.R_alloc | apply Kd.R_drewN | apply Kd.R_drew)); exact HO_173003.out⟩, ⟨by (with_reducible repeat (first | apply Kd.R_alloc | apply Kd.R_drewN | apply Kd.R_drew)); exact HO_173004.out⟩, ⟨by (with_reducible repeat (first | refine blk_drewN ?_ _ | refine blk_drew ?_ | refine blk_alloc ?_ _)); exact BK162.out⟩, ⟨by (with_reducible repeat (first | refine blk_drewN ?_ _ | refine blk_drew ?_ | refine blk_alloc ?_ _)); exact BK172.out⟩, ⟨by repeat (first | (with_reducible first | exact HB.out | apply below_alloc | apply pw_below_drewN | apply below_drew1 | refine below_set ?_ GE162.out | refine below_set ?_ GE172.out) | exact HB.out)⟩⟩
                    case round =>
                      clear H'
                      try clear c1
                      try clear p1
                      try clear q1
                      try clear hx1
                      try clear c2
                      try clear p2
                      try clear c3
                      try clear c4
                      try clear c6
                      try clear p6
                      try clear c8
                      try clear c12
                      try clear c12b0
                      try clear c13
                      try clear c14
                      try clear c16
                      try clear c16b0
                      try clear c17
                      try clear p17
                      try clear q17
                      try clear hx17
                      try clear c19
                      try clear c21
                      try clear c21b0
                      try clear c22
                      try clear c23
                      try clear c23b0
                      try clear c24
                      try clear c24b0
                      try clear c24b1
                      try clear c25
                      try clear c25b0
                      try clear c26
                      try clear c27
                      try clear c27b0
                      try clear c28
                      try clear c30
                      try clear c32
                      try clear c34
                      try clear c34b0
                      try clear c35
                      try clear c35b0
                      try clear c35b1
                      try clear c36
                      try clear c36b0
                      try clear c38
                      try clear c38b0
                      try clear c39
                      try clear c41
                      try clear c43
                      try clear c46
                      try clear c49
                      try clear c49b0
                      try clear hcz15_0
                      try clear hcz15_1
                      try clear hcz15_2
                      try clear hcz15_3
                      try clear hcz15_4
                      try clear hcz18_0
                      try clear hcz18_1
                      try clear hcz18_2
                      try clear hcz18_3
                      try clear hcz18_4
                      try clear hcz20_0
                      try clear hcz20_1
                      try clear hcz20_2
                      try clear hcz20_3
                      try clear hcz20_4
                      try clear hcz29_0
                      try clear hcz29_1
                      try clear hcz29_2
                      try clear hcz29_3
                      try clear hcz29_4
                      try clear hcz31_0
                      try clear hcz31_1
                      try clear hcz31_2
                      try clear hcz31_3
                      try clear hcz31_4
                      try clear hcz33_0
                      try clear hcz33_1
                      try clear hcz33_2
                      try clear hcz33_3
                      try clear hcz33_4
                      try clear hcz40_0
                      try clear hcz40_1
                      try clear hcz40_2
                      try clear hcz40_3
                      try clear hcz40_4
                      try clear hcz42_0
                      try clear hcz42_1
                      try clear hcz42_2
                      try clear hcz42_3
                      try clear hcz42_4
                      try clear hcz44_0
                      try clear hcz44_1
                      try clear hcz44_2
                      try clear hcz44_3
                      try clear hcz44_4
                      try clear hcz47_0
                      try clear hcz47_1
                      try clear hcz47_2
                      try clear hcz47_3
                      try clear hcz47_4
                      try clear hcz5_0
                      try clear hcz5_1
                      try clear hcz5_2
                      try clear hcz5_3
                      try clear hcz5_4
                      try clear hcz9_0
                      try clear hcz9_1
                      try clear hcz9_2
                      try clear hcz9_3
                      try clear hcz9_4
                      try clear hfz15_0
                      try clear hfz15_1
                      try clear hfz15_2
                      try clear hfz15_3
                      try clear hfz15_4
                      try clear hfz18_0
                      try clear hfz18_1
                      try clear hfz18_2
                      try clear hfz18_3
                      try clear hfz18_4
                      try clear hfz20_0
                      try clear hfz20_1
                      try clear hfz20_2
                      try clear hfz20_3
                      try clear hfz20_4
                      try clear hfz29_0
                      try clear hfz29_1
                      try clear hfz29_2
                      try clear hfz29_3
                      try clear hfz29_4
                      try clear hfz31_0
                      try clear hfz31_1
                      try clear hfz31_2
                      try clear hfz31_3
                      try clear hfz31_4
                      try clear hfz33_0
                      try clear hfz33_1
                      try clear hfz33_2
                      try clear hfz33_3
                      try clear hfz33_4
                      try clear hfz40_0
                      try clear hfz40_1
                      try clear hfz40_2
                      try clear hfz40_3
                      try clear hfz40_4
                      try clear hfz42_0
                      try clear hfz42_1
                      try clear hfz42_2
                      try clear hfz42_3
                      try clear hfz42_4
                      try clear hfz44_0
                      try clear hfz44_1
                      try clear hfz44_2
                      try clear hfz44_3
                      try clear hfz44_4
                      try clear hfz47_0
                      try clear hfz47_1
                      try clear hfz47_2
                      try clear hfz47_3
                      try clear hfz47_4
                      try clear hfz5_0
                      try clear hfz5_1
                      try clear hfz5_2
                      try clear hfz5_3
                      try clear hfz5_4
                      try clear hfz9_0
                      try clear hfz9_1
                      try clear hfz9_2
                      try clear hfz9_3
                      try clear hfz9_4
                      try clear hx173_0
                      try clear hx174_0
                      try clear hx175_0
                      try clear hx176_0
                      try clear hx177_0
                      try clear hx178_0
                      try clear p1
                      try clear p17
                      try clear p173
                      try clear p174
                      try clear p175
                      try clear p176
                      try clear p177
                      try clear p178
                      try clear p2
                      try clear p6
                      try clear q1
                      try clear q17
                      try clear q173
                      try clear q174
                      try clear q175
                      try clear q176
                      try clear q177
                      try clear q178
                      obtain ⟨x14_4, x15_4, rfl, rfl, HA, HK4, HO_11, HO_173003, HO_173004, BK162, BK172, HB⟩ := hrel
                      cases gk with
                      | zero => exact absurd HA.out (by simp [tarnlaw11_ConfNodes.l3])
                      | succ k4 =>
                        have H := HA.out
                        clear HA
                        simp only [tarnlaw11_ConfNodes.l3] at H
                        by_cases c50 : x15_4 < (t166.length : Int)
                        · rw [if_pos c50] at H
                          have c50b0 : decide (x15_4 < (t166.length : Int)) = true := decide_eq_true c50
                          clear c50
                          by_cases c51 : x14_4 = true
                          · subst c51
                            have H1 : (tarnlaw11_ConfNodes.l3 k4 a1 x6_1 x7_2 x8_2 t179 x12_3 x13_3 true (wrap64 (x15_4 + 1)) t163 t164 t165 t166 t169) = some r := by rw [if_pos rfl] at H; exact H
                            clear H
                            have H := H1
                            clear H1
                            have H' := Aside0.mk H
                            clear H
                            have hnb52 := NB172_162.out
                            have hnc52 := NB162_172.out
                            have hcz53_0 : wr.cell? ⟨gb172, 0, none⟩ = some (.int .i64 t163) := (blk_cell BK172.out 0).trans rfl
                            have hcz53_1 : wr.cell? ⟨gb172, 1, none⟩ = some (.int .i64 t164) := (blk_cell BK172.out 1).trans rfl
                            have hcz53_2 : wr.cell? ⟨gb172, 2, none⟩ = some (.int .i64 t165) := (blk_cell BK172.out 2).trans rfl
                            have hcz53_3 : wr.cell? ⟨gb172, 3, none⟩ = some (.slice Ao10 t166.length co10) := (blk_cell BK172.out 3).trans rfl
                            have hcz53_4 : wr.cell? ⟨gb172, 4, none⟩ = some (.slice Ao11 t169.length co11) := (blk_cell BK172.out 4).trans rfl
                            have hfz53_0 := blk_frozen BK172.out 0
                            have hfz53_1 := blk_frozen BK172.out 1
                            have hfz53_2 := blk_frozen BK172.out 2
                            have hfz53_3 := blk_frozen BK172.out 3
                            have hfz53_4 := blk_frozen BK172.out 4
                            go_wp2
                            go_roundg k4
                            case measure => have := HK1.out; have := HK2.out; have := HK3.out; have := HK4.out; omega
                            case rel => exact ⟨(true), (wrap64 (x15_4 + 1)), (by first | rfl | (simp; done) | (simp [*]; done)), (by first | rfl | (simp; done) | (simp [*]; done)), H', ⟨by have := HK1.out; have := HK2.out; have := HK3.out; have := HK4.out; omega⟩, ⟨by (with_reducible repeat (first | apply Kd.R_alloc | apply Kd.R_drewN | apply Kd.R_drew)); exact HO_11.out⟩, ⟨by (with_reducible repeat (first | apply Kd.R_alloc | apply Kd.R_drewN | apply Kd.R_drew)); exact HO_173003.out⟩, ⟨by (with_reducible repeat (first | apply Kd.R_alloc | apply Kd.R_drewN | apply Kd.R_drew)); exact HO_173004.out⟩, ⟨by (with_reducible repeat (first | refine blk_drewN ?_ _ | refine blk_drew ?_ | refine blk_alloc ?_ _)); exact BK162.out⟩, ⟨by (with_reducible repeat (first | refine blk_drewN ?_ _ | refine blk_drew ?_ | refine blk_alloc ?_ _)); exact BK172.out⟩, ⟨by repeat (first | (with_reducible first | exact HB.out | apply below_alloc | apply pw_below_drewN | apply below_drew1 | refine below_set ?_ GE162.out | refine below_set ?_ GE172.out) | exact HB.out)⟩⟩
                          · replace c51 := Bool.eq_false_iff.mpr c51
                            subst c51
                            have H1 : (if 0 ≤ x15_4 then (tarnlaw11_ConfNodes.l3 k4 a1 x6_1 x7_2 x8_2 t179 x12_3 x13_3 ((rd t166 x15_4) == x13_3) (wrap64 (x15_4 + 1)) t163 t164 t165 t166 t169) else (none)) = some r := by rw [if_neg (show ¬ (false = true) by decide)] at H; exact H
                            clear H
                            have H := H1
                            clear H1
                            by_cases c54 : 0 ≤ x15_4
                            · rw [if_pos c54] at H
                              have c54b0 : decide (0 ≤ x15_4) = true := decide_eq_true c54
                              clear c54
                              have H' := Aside0.mk H
                              clear H
                              have hnb55 := NB172_162.out
                              have hnc55 := NB162_172.out
                              have hcz56_0 : wr.cell? ⟨gb172, 0, none⟩ = some (.int .i64 t163) := (blk_cell BK172.out 0).trans rfl
                              have hcz56_1 : wr.cell? ⟨gb172, 1, none⟩ = some (.int .i64 t164) := (blk_cell BK172.out 1).trans rfl
                              have hcz56_2 : wr.cell? ⟨gb172, 2, none⟩ = some (.int .i64 t165) := (blk_cell BK172.out 2).trans rfl
                              have hcz56_3 : wr.cell? ⟨gb172, 3, none⟩ = some (.slice Ao10 t166.length co10) := (blk_cell BK172.out 3).trans rfl
                              have hcz56_4 : wr.cell? ⟨gb172, 4, none⟩ = some (.slice Ao11 t169.length co11) := (blk_cell BK172.out 4).trans rfl
                              have hfz56_0 := blk_frozen BK172.out 0
                              have hfz56_1 := blk_frozen BK172.out 1
                              have hfz56_2 := blk_frozen BK172.out 2
                              have hfz56_3 := blk_frozen BK172.out 3
                              have hfz56_4 := blk_frozen BK172.out 4
                              have p182 : 0 ≤ (x15_4 : Int) := of_decide_eq_true (by first | (with_reducible assumption) | assumption)
                              have q182 : x15_4 < (t166.length : Int) := of_decide_eq_true (by first | (with_reducible assumption) | assumption)
                              obtain ⟨ad182, e182, hx182_0⟩ := Kd.at_int (Kd.R_reads' HO_173003.out).2.2 x15_4 p182 q182
                              cases e182
                              replace p182 := eq_true p182
                              replace q182 := eq_true q182
                              go_wp2
                              go_roundg k4
                              case measure => have := HK1.out; have := HK2.out; have := HK3.out; have := HK4.out; omega
                              case rel => exact ⟨(((rd t166 x15_4) == x13_3)), (wrap64 (x15_4 + 1)), (by first | rfl | (simp; done) | (simp [*]; done)), (by first | rfl | (simp; done) | (simp [*]; done)), H', ⟨by have := HK1.out; have := HK2.out; have := HK3.out; have := HK4.out; omega⟩, ⟨by (with_reducible repeat (first | apply Kd.R_alloc | apply Kd.R_drewN | apply Kd.R_drew)); exact HO_11.out⟩, ⟨by (with_reducible repeat (first | apply Kd.R_alloc | apply Kd.R_drewN | apply Kd.R_drew)); exact HO_173003.out⟩, ⟨by (with_reducible repeat (first | apply Kd.R_alloc | apply Kd.R_drewN | apply Kd.R_drew)); exact HO_173004.out⟩, ⟨by (with_reducible repeat (first | refine blk_drewN ?_ _ | refine blk_drew ?_ | refine blk_alloc ?_ _)); exact BK162.out⟩, ⟨by (with_reducible repeat (first | refine blk_drewN ?_ _ | refine blk_drew ?_ | refine blk_alloc ?_ _)); exact BK172.out⟩, ⟨by repeat (first | (with_reducible first | exact HB.out | apply below_alloc | apply pw_below_drewN | apply below_drew1 | refine below_set ?_ GE162.out | refine below_set ?_ GE172.out) | exact HB.out)⟩⟩
                            · rw [if_neg c54] at H
                              exact absurd H (by simp)
                        · rw [if_neg c50] at H
                          have c50b0 : decide (x15_4 < (t166.length : Int)) = false := decide_eq_false c50
                          clear c50
                          have H' := Aside0.mk H
                          clear H
                          have hnb57 := NB172_162.out
                          have hnc57 := NB162_172.out
                          have hcz58_0 : wr.cell? ⟨gb172, 0, none⟩ = some (.int .i64 t163) := (blk_cell BK172.out 0).trans rfl
                          have hcz58_1 : wr.cell? ⟨gb172, 1, none⟩ = some (.int .i64 t164) := (blk_cell BK172.out 1).trans rfl
                          have hcz58_2 : wr.cell? ⟨gb172, 2, none⟩ = some (.int .i64 t165) := (blk_cell BK172.out 2).trans rfl
                          have hcz58_3 : wr.cell? ⟨gb172, 3, none⟩ = some (.slice Ao10 t166.length co10) := (blk_cell BK172.out 3).trans rfl
                          have hcz58_4 : wr.cell? ⟨gb172, 4, none⟩ = some (.slice Ao11 t169.length co11) := (blk_cell BK172.out 4).trans rfl
                          have hfz58_0 := blk_frozen BK172.out 0
                          have hfz58_1 := blk_frozen BK172.out 1
                          have hfz58_2 := blk_frozen BK172.out 2
                          have hfz58_3 := blk_frozen BK172.out 3
                          have hfz58_4 := blk_frozen BK172.out 4
                          go_wp2
                          go_loopg [14, 16] k4 (fun kq v14 v16 w' => ∃ (x14_5 : Bool) (x16_5 : Int), v14 = .bool x14_5 ∧ v16 = .int .i64 x16_5 ∧ Aside0 (tarnlaw11_ConfNodes.l4 kq a1 x6_1 x7_2 x8_2 t179 x12_3 x13_3 x14_5 x16_5 t163 t164 t165 t166 t169 = some r) ∧ Aside0 (kq ≤ k4) ∧ Aside0 (Kd.R (Kd.int .i64) 3 w' w.heap.size (fun k_ => some k_ ≠ ((.slice Ao10 t166.length co10) : Value).ownBlock ∧ some k_ ≠ ((.slice Ao11 t169.length co11) : Value).ownBlock) v180 t179) ∧ Aside0 (Kd.R (Kd.int .i64) 3 w' w.heap.size (fun k_ => some k_ ≠ (v180 : Value).ownBlock ∧ some k_ ≠ ((.slice Ao11 t169.length co11) : Value).ownBlock) (.slice Ao10 t166.length co10) t166) ∧ Aside0 (Kd.R (Kd.int .i64) 3 w' w.heap.size (fun k_ => some k_ ≠ (v180 : Value).ownBlock ∧ some k_ ≠ ((.slice Ao10 t166.length co10) : Value).ownBlock) (.slice Ao11 t169.length co11) t169) ∧ Aside0 (w'.heap[gb162]? = some (.cells #[.int .i64 a0_0, .int .i64 a0_1, .int .i64 a0_2, (.slice A0_3 l0_3.length c0_3), (.slice A0_4 l0_4.length c0_4)] 31 (0, 0))) ∧ Aside0 (w'.heap[gb172]? = some (.cells #[.int .i64 t163, .int .i64 t164, .int .i64 t165, (.slice Ao10 t166.length co10), (.slice Ao11 t169.length co11)] 31 (0, 0))) ∧ Aside0 (Below w.heap.size w w'))
                          case atStart => exact ⟨(x14_4), (0), (by first | rfl | (simp; done) | (simp [*]; done)), (by first | rfl | (simp; done) | (simp [*]; done)), H', ⟨Nat.le_refl _⟩, ⟨by (with_reducible repeat (first | apply Kd.R_alloc | apply Kd.R_drewN | apply Kd.R_drew)); exact HO_11.out⟩, ⟨by (with_reducible repeat (first | apply Kd.R_alloc | apply Kd.R_drewN | apply Kd.R_drew)); exact HO_173003.out⟩, ⟨by (with_reducible repeat (first | apply Kd.R_alloc | apply Kd.R_drewN | apply Kd.R_drew)); exact HO_173004.out⟩, ⟨by (with_reducible repeat (first | refine blk_drewN ?_ _ | refine blk_drew ?_ | refine blk_alloc ?_ _)); exact BK162.out⟩, ⟨by (with_reducible repeat (first | refine blk_drewN ?_ _ | refine blk_drew ?_ | refine blk_alloc ?_ _)); exact BK172.out⟩, ⟨by repeat (first | (with_reducible first | exact HB.out | apply below_alloc | apply pw_below_drewN | apply below_drew1 | refine below_set ?_ GE162.out | refine below_set ?_ GE172.out) | exact HB.out)⟩⟩
                          case round =>
                            clear H'
                            try clear c1
                            try clear p1
                            try clear q1
                            try clear hx1
                            try clear c2
                            try clear p2
                            try clear c3
                            try clear c4
                            try clear c5
                            try clear c6
                            try clear p6
                            try clear c8
                            try clear c12
                            try clear c12b0
                            try clear c13
                            try clear c14
                            try clear c16
                            try clear c16b0
                            try clear c17
                            try clear p17
                            try clear q17
                            try clear hx17
                            try clear p18
                            try clear q18
                            try clear hx18
                            try clear c19
                            try clear c21
                            try clear c21b0
                            try clear c22
                            try clear c23
                            try clear c23b0
                            try clear c24
                            try clear c24b0
                            try clear c24b1
                            try clear c25
                            try clear c25b0
                            try clear c26
                            try clear c27
                            try clear c27b0
                            try clear c28
                            try clear c30
                            try clear c32
                            try clear c34
                            try clear c34b0
                            try clear c35
                            try clear c35b0
                            try clear c35b1
                            try clear c36
                            try clear c36b0
                            try clear c38
                            try clear c38b0
                            try clear c39
                            try clear c41
                            try clear c43
                            try clear c46
                            try clear c49
                            try clear c49b0
                            try clear c50
                            try clear c50b0
                            try clear c51
                            try clear c52
                            try clear c54
                            try clear c54b0
                            try clear c55
                            try clear c57
                            try clear hcz15_0
                            try clear hcz15_1
                            try clear hcz15_2
                            try clear hcz15_3
                            try clear hcz15_4
                            try clear hcz18_0
                            try clear hcz18_1
                            try clear hcz18_2
                            try clear hcz18_3
                            try clear hcz18_4
                            try clear hcz20_0
                            try clear hcz20_1
                            try clear hcz20_2
                            try clear hcz20_3
                            try clear hcz20_4
                            try clear hcz29_0
                            try clear hcz29_1
                            try clear hcz29_2
                            try clear hcz29_3
                            try clear hcz29_4
                            try clear hcz31_0
                            try clear hcz31_1
                            try clear hcz31_2
                            try clear hcz31_3
                            try clear hcz31_4
                            try clear hcz33_0
                            try clear hcz33_1
                            try clear hcz33_2
                            try clear hcz33_3
                            try clear hcz33_4
                            try clear hcz40_0
                            try clear hcz40_1
                            try clear hcz40_2
                            try clear hcz40_3
                            try clear hcz40_4
                            try clear hcz42_0
                            try clear hcz42_1
                            try clear hcz42_2
                            try clear hcz42_3
                            try clear hcz42_4
                            try clear hcz44_0
                            try clear hcz44_1
                            try clear hcz44_2
                            try clear hcz44_3
                            try clear hcz44_4
                            try clear hcz47_0
                            try clear hcz47_1
                            try clear hcz47_2
                            try clear hcz47_3
                            try clear hcz47_4
                            try clear hcz53_0
                            try clear hcz53_1
                            try clear hcz53_2
                            try clear hcz53_3
                            try clear hcz53_4
                            try clear hcz56_0
                            try clear hcz56_1
                            try clear hcz56_2
                            try clear hcz56_3
                            try clear hcz56_4
                            try clear hcz58_0
                            try clear hcz58_1
                            try clear hcz58_2
                            try clear hcz58_3
                            try clear hcz58_4
                            try clear hcz5_0
                            try clear hcz5_1
                            try clear hcz5_2
                            try clear hcz5_3
                            try clear hcz5_4
                            try clear hcz9_0
                            try clear hcz9_1
                            try clear hcz9_2
                            try clear hcz9_3
                            try clear hcz9_4
                            try clear hfz15_0
                            try clear hfz15_1
                            try clear hfz15_2
                            try clear hfz15_3
                            try clear hfz15_4
                            try clear hfz18_0
                            try clear hfz18_1
                            try clear hfz18_2
                            try clear hfz18_3
                            try clear hfz18_4
                            try clear hfz20_0
                            try clear hfz20_1
                            try clear hfz20_2
                            try clear hfz20_3
                            try clear hfz20_4
                            try clear hfz29_0
                            try clear hfz29_1
                            try clear hfz29_2
                            try clear hfz29_3
                            try clear hfz29_4
                            try clear hfz31_0
                            try clear hfz31_1
                            try clear hfz31_2
                            try clear hfz31_3
                            try clear hfz31_4
                            try clear hfz33_0
                            try clear hfz33_1
                            try clear hfz33_2
                            try clear hfz33_3
                            try clear hfz33_4
                            try clear hfz40_0
                            try clear hfz40_1
                            try clear hfz40_2
                            try clear hfz40_3
                            try clear hfz40_4
                            try clear hfz42_0
                            try clear hfz42_1
                            try clear hfz42_2
                            try clear hfz42_3
                            try clear hfz42_4
                            try clear hfz44_0
                            try clear hfz44_1
                            try clear hfz44_2
                            try clear hfz44_3
                            try clear hfz44_4
                            try clear hfz47_0
                            try clear hfz47_1
                            try clear hfz47_2
                            try clear hfz47_3
                            try clear hfz47_4
                            try clear hfz53_0
                            try clear hfz53_1
                            try clear hfz53_2
                            try clear hfz53_3
                            try clear hfz53_4
                            try clear hfz56_0
                            try clear hfz56_1
                            try clear hfz56_2
                            try clear hfz56_3
                            try clear hfz56_4
                            try clear hfz58_0
                            try clear hfz58_1
                            try clear hfz58_2
                            try clear hfz58_3
                            try clear hfz58_4
                            try clear hfz5_0
                            try clear hfz5_1
                            try clear hfz5_2
                            try clear hfz5_3
                            try clear hfz5_4
                            try clear hfz9_0
                            try clear hfz9_1
                            try clear hfz9_2
                            try clear hfz9_3
                            try clear hfz9_4
                            try clear hx173_0
                            try clear hx174_0
                            try clear hx175_0
                            try clear hx176_0
                            try clear hx177_0
                            try clear hx178_0
                            try clear hx182_0
                            try clear p1
                            try clear p17
                            try clear p173
                            try clear p174
                            try clear p175
                            try clear p176
                            try clear p177
                            try clear p178
                            try clear p182
                            try clear p2
                            try clear p6
                            try clear q1
                            try clear q17
                            try clear q173
                            try clear q174
                            try clear q175
                            try clear q176
                            try clear q177
                            try clear q178
                            try clear q182
                            obtain ⟨x14_5, x16_5, rfl, rfl, HA, HK5, HO_11, HO_173003, HO_173004, BK162, BK172, HB⟩ := hrel
                            cases gk with
                            | zero => exact absurd HA.out (by simp [tarnlaw11_ConfNodes.l4])
                            | succ k5 =>
                              have H := HA.out
                              clear HA
                              simp only [tarnlaw11_ConfNodes.l4] at H
                              by_cases c59 : x16_5 < (t169.length : Int)
                              · rw [if_pos c59] at H
                                have c59b0 : decide (x16_5 < (t169.length : Int)) = true := decide_eq_true c59
                                clear c59
                                by_cases c60 : x14_5 = true
                                · subst c60
                                  have H1 : (tarnlaw11_ConfNodes.l4 k5 a1 x6_1 x7_2 x8_2 t179 x12_3 x13_3 true (wrap64 (x16_5 + 1)) t163 t164 t165 t166 t169) = some r := by rw [if_pos rfl] at H; exact H
                                  clear H
                                  have H := H1
                                  clear H1
                                  have H' := Aside0.mk H
                                  clear H
                                  have hnb61 := NB172_162.out
                                  have hnc61 := NB162_172.out
                                  have hcz62_0 : wr.cell? ⟨gb172, 0, none⟩ = some (.int .i64 t163) := (blk_cell BK172.out 0).trans rfl
                                  have hcz62_1 : wr.cell? ⟨gb172, 1, none⟩ = some (.int .i64 t164) := (blk_cell BK172.out 1).trans rfl
                                  have hcz62_2 : wr.cell? ⟨gb172, 2, none⟩ = some (.int .i64 t165) := (blk_cell BK172.out 2).trans rfl
                                  have hcz62_3 : wr.cell? ⟨gb172, 3, none⟩ = some (.slice Ao10 t166.length co10) := (blk_cell BK172.out 3).trans rfl
                                  have hcz62_4 : wr.cell? ⟨gb172, 4, none⟩ = some (.slice Ao11 t169.length co11) := (blk_cell BK172.out 4).trans rfl
                                  have hfz62_0 := blk_frozen BK172.out 0
                                  have hfz62_1 := blk_frozen BK172.out 1
                                  have hfz62_2 := blk_frozen BK172.out 2
                                  have hfz62_3 := blk_frozen BK172.out 3
                                  have hfz62_4 := blk_frozen BK172.out 4
                                  go_wp2
                                  go_roundg k5
                                  case measure => have := HK1.out; have := HK2.out; have := HK3.out; have := HK4.out; have := HK5.out; omega
                                  case rel => exact ⟨(true), (wrap64 (x16_5 + 1)), (by first | rfl | (simp; done) | (simp [*]; done)), (by first | rfl | (simp; done) | (simp [*]; done)), H', ⟨by have := HK1.out; have := HK2.out; have := HK3.out; have := HK4.out; have := HK5.out; omega⟩, ⟨by (with_reducible repeat (first | apply Kd.R_alloc | apply Kd.R_drewN | apply Kd.R_drew)); exact HO_11.out⟩, ⟨by (with_reducible repeat (first | apply Kd.R_alloc | apply Kd.R_drewN | apply Kd.R_drew)); exact HO_173003.out⟩, ⟨by (with_reducible repeat (first | apply Kd.R_alloc | apply Kd.R_drewN | apply Kd.R_drew)); exact HO_173004.out⟩, ⟨by (with_reducible repeat (first | refine blk_drewN ?_ _ | refine blk_drew ?_ | refine blk_alloc ?_ _)); exact BK162.out⟩, ⟨by (with_reducible repeat (first | refine blk_drewN ?_ _ | refine blk_drew ?_ | refine blk_alloc ?_ _)); exact BK172.out⟩, ⟨by repeat (first | (with_reducible first | exact HB.out | apply below_alloc | apply pw_below_drewN | apply below_drew1 | refine below_set ?_ GE162.out | refine below_set ?_ GE172.out) | exact HB.out)⟩⟩
                                · replace c60 := Bool.eq_false_iff.mpr c60
                                  subst c60
                                  have H1 : (if 0 ≤ x16_5 then (tarnlaw11_ConfNodes.l4 k5 a1 x6_1 x7_2 x8_2 t179 x12_3 x13_3 ((rd t169 x16_5) == x13_3) (wrap64 (x16_5 + 1)) t163 t164 t165 t166 t169) else (none)) = some r := by rw [if_neg (show ¬ (false = true) by decide)] at H; exact H
                                  clear H
                                  have H := H1
                                  clear H1
                                  by_cases c63 : 0 ≤ x16_5
                                  · rw [if_pos c63] at H
                                    have c63b0 : decide (0 ≤ x16_5) = true := decide_eq_true c63
                                    clear c63
                                    have H' := Aside0.mk H
                                    clear H
                                    have hnb64 := NB172_162.out
                                    have hnc64 := NB162_172.out
                                    have hcz65_0 : wr.cell? ⟨gb172, 0, none⟩ = some (.int .i64 t163) := (blk_cell BK172.out 0).trans rfl
                                    have hcz65_1 : wr.cell? ⟨gb172, 1, none⟩ = some (.int .i64 t164) := (blk_cell BK172.out 1).trans rfl
                                    have hcz65_2 : wr.cell? ⟨gb172, 2, none⟩ = some (.int .i64 t165) := (blk_cell BK172.out 2).trans rfl
                                    have hcz65_3 : wr.cell? ⟨gb172, 3, none⟩ = some (.slice Ao10 t166.length co10) := (blk_cell BK172.out 3).trans rfl
                                    have hcz65_4 : wr.cell? ⟨gb172, 4, none⟩ = some (.slice Ao11 t169.length co11) := (blk_cell BK172.out 4).trans rfl
                                    have hfz65_0 := blk_frozen BK172.out 0
                                    have hfz65_1 := blk_frozen BK172.out 1
                                    have hfz65_2 := blk_frozen BK172.out 2
                                    have hfz65_3 := blk_frozen BK172.out 3
                                    have hfz65_4 := blk_frozen BK172.out 4
                                    have p183 : 0 ≤ (x16_5 : Int) := of_decide_eq_true (by first | (with_reducible assumption) | assumption)
                                    have q183 : x16_5 < (t169.length : Int) := of_decide_eq_true (by first | (with_reducible assumption) | assumption)
                                    obtain ⟨ad183, e183, hx183_0⟩ := Kd.at_int (Kd.R_reads' HO_173004.out).2.2 x16_5 p183 q183
                                    cases e183
                                    replace p183 := eq_true p183
                                    replace q183 := eq_true q183
                                    go_wp2
                                    go_roundg k5
                                    case measure => have := HK1.out; have := HK2.out; have := HK3.out; have := HK4.out; have := HK5.out; omega
                                    case rel => exact ⟨(((rd t169 x16_5) == x13_3)), (wrap64 (x16_5 + 1)), (by first | rfl | (simp; done) | (simp [*]; done)), (by first | rfl | (simp; done) | (simp [*]; done)), H', ⟨by have := HK1.out; have := HK2.out; have := HK3.out; have := HK4.out; have := HK5.out; omega⟩, ⟨by (with_reducible repeat (first | apply Kd.R_alloc | apply Kd.R_drewN | apply Kd.R_drew)); exact HO_11.out⟩, ⟨by (with_reducible repeat (first | apply Kd.R_alloc | apply Kd.R_drewN | apply Kd.R_drew)); exact HO_173003.out⟩, ⟨by (with_reducible repeat (first | apply Kd.R_alloc | apply Kd.R_drewN | apply Kd.R_drew)); exact HO_173004.out⟩, ⟨by (with_reducible repeat (first | refine blk_drewN ?_ _ | refine blk_drew ?_ | refine blk_alloc ?_ _)); exact BK162.out⟩, ⟨by (with_reducible repeat (first | refine blk_drewN ?_ _ | refine blk_drew ?_ | refine blk_alloc ?_ _)); exact BK172.out⟩, ⟨by repeat (first | (with_reducible first | exact HB.out | apply below_alloc | apply pw_below_drewN | apply below_drew1 | refine below_set ?_ GE162.out | refine below_set ?_ GE172.out) | exact HB.out)⟩⟩
                                  · rw [if_neg c63] at H
                                    exact absurd H (by simp)
                              · rw [if_neg c59] at H
                                have c59b0 : decide (x16_5 < (t169.length : Int)) = false := decide_eq_false c59
                                clear c59
                                by_cases c66 : x14_5 = true
                                · subst c66
                                  have H1 : (if x12_3 ≥ (t179.length : Int) then (some false) else (if 0 ≤ x12_3 then (if x12_3 < (t179.length : Int) then (if (rd t179 x12_3) = x13_3 then (tarnlaw11_ConfNodes.l2 k5 a1 x6_1 x7_2 x8_2 t179 (wrap64 (x12_3 + 1)) (wrap64 (x13_3 + 1)) t163 t164 t165 t166 t169) else (some false)) else (none)) else (none))) = some r := by rw [if_pos rfl] at H; exact H
                                  clear H
                                  have H := H1
                                  clear H1
                                  by_cases c67 : x12_3 ≥ (t179.length : Int)
                                  · rw [if_pos c67] at H
                                    have c67b0 : decide ((t179.length : Int) ≤ x12_3) = true := decide_eq_true c67
                                    clear c67
                                    obtain rfl := Option.some.inj H
                                    have hnb68 := NB172_162.out
                                    have hnc68 := NB162_172.out
                                    have hcz69_0 : wr.cell? ⟨gb172, 0, none⟩ = some (.int .i64 t163) := (blk_cell BK172.out 0).trans rfl
                                    have hcz69_1 : wr.cell? ⟨gb172, 1, none⟩ = some (.int .i64 t164) := (blk_cell BK172.out 1).trans rfl
                                    have hcz69_2 : wr.cell? ⟨gb172, 2, none⟩ = some (.int .i64 t165) := (blk_cell BK172.out 2).trans rfl
                                    have hcz69_3 : wr.cell? ⟨gb172, 3, none⟩ = some (.slice Ao10 t166.length co10) := (blk_cell BK172.out 3).trans rfl
                                    have hcz69_4 : wr.cell? ⟨gb172, 4, none⟩ = some (.slice Ao11 t169.length co11) := (blk_cell BK172.out 4).trans rfl
                                    have hfz69_0 := blk_frozen BK172.out 0
                                    have hfz69_1 := blk_frozen BK172.out 1
                                    have hfz69_2 := blk_frozen BK172.out 2
                                    have hfz69_3 := blk_frozen BK172.out 3
                                    have hfz69_4 := blk_frozen BK172.out 4
                                    obtain ⟨Ao70, co70, eo70⟩ := Kd.R_slice HO_11.out
                                    subst eo70
                                    go_wp2
                                    go_ret
                                    exact ⟨by first | rfl | (simp [errW_none, errW_some] <;> rfl) | (simp [*, errW_none, errW_some] <;> rfl), by repeat (first | (with_reducible first | exact HB.out | apply below_alloc | apply pw_below_drewN | apply below_drew1 | refine below_set ?_ GE162.out | refine below_set ?_ GE172.out) | exact HB.out)⟩
                                  · rw [if_neg c67] at H
                                    have c67b0 : decide ((t179.length : Int) ≤ x12_3) = false := decide_eq_false c67
                                    clear c67
                                    by_cases c71 : 0 ≤ x12_3
                                    · rw [if_pos c71] at H
                                      have c71b0 : decide (0 ≤ x12_3) = true := decide_eq_true c71
                                      clear c71
                                      by_cases c72 : x12_3 < (t179.length : Int)
                                      · rw [if_pos c72] at H
                                        have c72b0 : decide (x12_3 < (t179.length : Int)) = true := decide_eq_true c72
                                        clear c72
                                        by_cases c73 : (rd t179 x12_3) = x13_3
                                        · rw [if_pos c73] at H
                                          have c73b0 : ((rd t179 x12_3) == x13_3) = true := beq_iff_eq.mpr c73
                                          have c73b1 : ((rd t179 x12_3) != x13_3) = false := bne_eq_false_iff_eq.mpr c73
                                          clear c73
                                          have H' := Aside0.mk H
                                          clear H
                                          have hnb74 := NB172_162.out
                                          have hnc74 := NB162_172.out
                                          have hcz75_0 : wr.cell? ⟨gb172, 0, none⟩ = some (.int .i64 t163) := (blk_cell BK172.out 0).trans rfl
                                          have hcz75_1 : wr.cell? ⟨gb172, 1, none⟩ = some (.int .i64 t164) := (blk_cell BK172.out 1).trans rfl
                                          have hcz75_2 : wr.cell? ⟨gb172, 2, none⟩ = some (.int .i64 t165) := (blk_cell BK172.out 2).trans rfl
                                          have hcz75_3 : wr.cell? ⟨gb172, 3, none⟩ = some (.slice Ao10 t166.length co10) := (blk_cell BK172.out 3).trans rfl
                                          have hcz75_4 : wr.cell? ⟨gb172, 4, none⟩ = some (.slice Ao11 t169.length co11) := (blk_cell BK172.out 4).trans rfl
                                          have hfz75_0 := blk_frozen BK172.out 0
                                          have hfz75_1 := blk_frozen BK172.out 1
                                          have hfz75_2 := blk_frozen BK172.out 2
                                          have hfz75_3 := blk_frozen BK172.out 3
                                          have hfz75_4 := blk_frozen BK172.out 4
                                          obtain ⟨Ao76, co76, eo76⟩ := Kd.R_slice HO_11.out
                                          subst eo76
                                          have p184 : 0 ≤ (x12_3 : Int) := of_decide_eq_true (by first | (with_reducible assumption) | assumption)
                                          have q184 : x12_3 < (t179.length : Int) := of_decide_eq_true (by first | (with_reducible assumption) | assumption)
                                          obtain ⟨ad184, e184, hx184_0⟩ := Kd.at_int (Kd.R_reads' HO_11.out).2.2 x12_3 p184 q184
                                          cases e184
                                          replace p184 := eq_true p184
                                          replace q184 := eq_true q184
                                          go_wp2
                                          go_roundg k5
                                          case measure => have := HK1.out; have := HK2.out; have := HK3.out; have := HK4.out; have := HK5.out; omega
                                          case rel => exact ⟨(wrap64 (x12_3 + 1)), (wrap64 (x13_3 + 1)), (by first | rfl | (simp; done) | (simp [*]; done)), (by first | rfl | (simp; done) | (simp [*]; done)), H', ⟨by have := HK1.out; have := HK2.out; have := HK3.out; have := HK4.out; have := HK5.out; omega⟩, ⟨by (with_reducible repeat (first | apply Kd.R_alloc | apply Kd.R_drewN | apply Kd.R_drew)); exact HO_11.out⟩, ⟨by (with_reducible repeat (first | apply Kd.R_alloc | apply Kd.R_drewN | apply Kd.R_drew)); exact HO_173003.out⟩, ⟨by (with_reducible repeat (first | apply Kd.R_alloc | apply Kd.R_drewN | apply Kd.R_drew)); exact HO_173004.out⟩, ⟨by (with_reducible repeat (first | refine blk_drewN ?_ _ | refine blk_drew ?_ | refine blk_alloc ?_ _)); exact BK162.out⟩, ⟨by (with_reducible repeat (first | refine blk_drewN ?_ _ | refine blk_drew ?_ | refine blk_alloc ?_ _)); exact BK172.out⟩, ⟨by repeat (first | (with_reducible first | exact HB.out | apply below_alloc | apply pw_below_drewN | apply below_drew1 | refine below_set ?_ GE162.out | refine below_set ?_ GE172.out) | exact HB.out)⟩⟩
                                        · rw [if_neg c73] at H
                                          have c73b0 : ((rd t179 x12_3) == x13_3) = false := beq_eq_false_iff_ne.mpr c73
                                          have c73b1 : ((rd t179 x12_3) != x13_3) = true := bne_iff_ne.mpr c73
                                          obtain rfl := Option.some.inj H
                                          have hnb77 := NB172_162.out
                                          have hnc77 := NB162_172.out
                                          have hcz78_0 : wr.cell? ⟨gb172, 0, none⟩ = some (.int .i64 t163) := (blk_cell BK172.out 0).trans rfl
                                          have hcz78_1 : wr.cell? ⟨gb172, 1, none⟩ = some (.int .i64 t164) := (blk_cell BK172.out 1).trans rfl
                                          have hcz78_2 : wr.cell? ⟨gb172, 2, none⟩ = some (.int .i64 t165) := (blk_cell BK172.out 2).trans rfl
                                          have hcz78_3 : wr.cell? ⟨gb172, 3, none⟩ = some (.slice Ao10 t166.length co10) := (blk_cell BK172.out 3).trans rfl
                                          have hcz78_4 : wr.cell? ⟨gb172, 4, none⟩ = some (.slice Ao11 t169.length co11) := (blk_cell BK172.out 4).trans rfl
                                          have hfz78_0 := blk_frozen BK172.out 0
                                          have hfz78_1 := blk_frozen BK172.out 1
                                          have hfz78_2 := blk_frozen BK172.out 2
                                          have hfz78_3 := blk_frozen BK172.out 3
                                          have hfz78_4 := blk_frozen BK172.out 4
                                          obtain ⟨Ao79, co79, eo79⟩ := Kd.R_slice HO_11.out
                                          subst eo79
                                          have p184 : 0 ≤ (x12_3 : Int) := of_decide_eq_true (by first | (with_reducible assumption) | assumption)
                                          have q184 : x12_3 < (t179.length : Int) := of_decide_eq_true (by first | (with_reducible assumption) | assumption)
                                          obtain ⟨ad184, e184, hx184_0⟩ := Kd.at_int (Kd.R_reads' HO_11.out).2.2 x12_3 p184 q184
                                          cases e184
                                          replace p184 := eq_true p184
                                          replace q184 := eq_true q184
                                          go_wp2
                                          go_ret
                                          exact ⟨by first | rfl | (simp [errW_none, errW_some] <;> rfl) | (simp [*, errW_none, errW_some] <;> rfl), by repeat (first | (with_reducible first | exact HB.out | apply below_alloc | apply pw_below_drewN | apply below_drew1 | refine below_set ?_ GE162.out | refine below_set ?_ GE172.out) | exact HB.out)⟩
                                      · rw [if_neg c72] at H
                                        exact absurd H (by simp)
                                    · rw [if_neg c71] at H
                                      exact absurd H (by simp)
                                · replace c66 := Bool.eq_false_iff.mpr c66
                                  subst c66
                                  have H1 : (tarnlaw11_ConfNodes.l2 k5 a1 x6_1 x7_2 x8_2 t179 x12_3 (wrap64 (x13_3 + 1)) t163 t164 t165 t166 t169) = some r := by rw [if_neg (show ¬ (false = true) by decide)] at H; exact H
                                  clear H
                                  have H := H1
                                  clear H1
                                  have H' := Aside0.mk H
                                  clear H
                                  have hnb80 := NB172_162.out
                                  have hnc80 := NB162_172.out
                                  have hcz81_0 : wr.cell? ⟨gb172, 0, none⟩ = some (.int .i64 t163) := (blk_cell BK172.out 0).trans rfl
                                  have hcz81_1 : wr.cell? ⟨gb172, 1, none⟩ = some (.int .i64 t164) := (blk_cell BK172.out 1).trans rfl
                                  have hcz81_2 : wr.cell? ⟨gb172, 2, none⟩ = some (.int .i64 t165) := (blk_cell BK172.out 2).trans rfl
                                  have hcz81_3 : wr.cell? ⟨gb172, 3, none⟩ = some (.slice Ao10 t166.length co10) := (blk_cell BK172.out 3).trans rfl
                                  have hcz81_4 : wr.cell? ⟨gb172, 4, none⟩ = some (.slice Ao11 t169.length co11) := (blk_cell BK172.out 4).trans rfl
                                  have hfz81_0 := blk_frozen BK172.out 0
                                  have hfz81_1 := blk_frozen BK172.out 1
                                  have hfz81_2 := blk_frozen BK172.out 2
                                  have hfz81_3 := blk_frozen BK172.out 3
                                  have hfz81_4 := blk_frozen BK172.out 4
                                  go_wp2
                                  go_roundg k5
                                  case measure => have := HK1.out; have := HK2.out; have := HK3.out; have := HK4.out; have := HK5.out; omega
                                  case rel => exact ⟨(x12_3), (wrap64 (x13_3 + 1)), (by first | rfl | (simp; done) | (simp [*]; done)), (by first | rfl | (simp; done) | (simp [*]; done)), H', ⟨by have := HK1.out; have := HK2.out; have := HK3.out; have := HK4.out; have := HK5.out; omega⟩, ⟨by (with_reducible repeat (first | apply Kd.R_alloc | apply Kd.R_drewN | apply Kd.R_drew)); exact HO_11.out⟩, ⟨by (with_reducible repeat (first | apply Kd.R_alloc | apply Kd.R_drewN | apply Kd.R_drew)); exact HO_173003.out⟩, ⟨by (with_reducible repeat (first | apply Kd.R_alloc | apply Kd.R_drewN | apply Kd.R_drew)); exact HO_173004.out⟩, ⟨by (with_reducible repeat (first | refine blk_drewN ?_ _ | refine blk_drew ?_ | refine blk_alloc ?_ _)); exact BK162.out⟩, ⟨by (with_reducible repeat (first | refine blk_drewN ?_ _ | refine blk_drew ?_ | refine blk_alloc ?_ _)); exact BK172.out⟩, ⟨by repeat (first | (with_reducible first | exact HB.out | apply below_alloc | apply pw_below_drewN | apply below_drew1 | refine below_set ?_ GE162.out | refine below_set ?_ GE172.out) | exact HB.out)⟩⟩
                  · rw [if_neg c49] at H
                    have c49b0 : decide (x13_3 < 5) = false := decide_eq_false c49
                    clear c49
                    replace H := Option.bind_eq_some_iff.mp H
                    obtain ⟨t185, A820, H⟩ := H
                    replace H : (if t185 = true then (if x12_3 = (t179.length : Int) then ((conf_Mirrors.f k3 t163 t164 t165 t166 t169 a1).bind fun t186 => (if (t186 == x6_1) = true then ((conf_Chains.f k3 t163 t164 t165 t166 t169 a1).bind fun t187 => (if (t187 == x7_2) = true then ((conf_Behind.f k3 t163 t164 t165 t166 t169 a1).bind fun t188 => (if t188 = x8_2 then ((conf_Node.f a1).bind fun t189 => (if a1 ≥ 0 then (if (t189 == (decide (a1 ≤ 4))) = true then ((conf_Gate.f a1).bind fun t190 => (if a1 = 5 then (some (t190 == true)) else (some (t190 == (a1 == 6))))) else (some false)) else (if (t189 == false) = true then ((conf_Gate.f a1).bind fun t191 => (if a1 = 5 then (some (t191 == true)) else (some (t191 == (a1 == 6))))) else (some false)))) else (some false))) else (some false))) else (some false))) else (some false)) else (some false)) = some r := H
                    have A82 := Aside0.mk A820
                    clear A820
                    by_cases c83 : t185 = true
                    · subst c83
                      have H1 : (if x12_3 = (t179.length : Int) then ((conf_Mirrors.f k3 t163 t164 t165 t166 t169 a1).bind fun t186 => (if (t186 == x6_1) = true then ((conf_Chains.f k3 t163 t164 t165 t166 t169 a1).bind fun t187 => (if (t187 == x7_2) = true then ((conf_Behind.f k3 t163 t164 t165 t166 t169 a1).bind fun t188 => (if t188 = x8_2 then ((conf_Node.f a1).bind fun t189 => (if a1 ≥ 0 then (if (t189 == (decide (a1 ≤ 4))) = true then ((conf_Gate.f a1).bind fun t190 => (if a1 = 5 then (some (t190 == true)) else (some (t190 == (a1 == 6))))) else (some false)) else (if (t189 == false) = true then ((conf_Gate.f a1).bind fun t191 => (if a1 = 5 then (some (t191 == true)) else (some (t191 == (a1 == 6))))) else (some false)))) else (some false))) else (some false))) else (some false))) else (some false)) = some r := by rw [if_pos rfl] at H; exact H
                      clear H
                      have H := H1
                      clear H1
                      by_cases c84 : x12_3 = (t179.length : Int)
                      · rw [if_pos c84] at H
                        have c84b0 : (x12_3 == (t179.length : Int)) = true := beq_iff_eq.mpr c84
                        have c84b1 : (x12_3 != (t179.length : Int)) = false := bne_eq_false_iff_eq.mpr c84
                        clear c84
                        replace H := Option.bind_eq_some_iff.mp H
                        obtain ⟨t186, A850, H⟩ := H
                        replace H : (if (t186 == x6_1) = true then ((conf_Chains.f k3 t163 t164 t165 t166 t169 a1).bind fun t187 => (if (t187 == x7_2) = true then ((conf_Behind.f k3 t163 t164 t165 t166 t169 a1).bind fun t188 => (if t188 = x8_2 then ((conf_Node.f a1).bind fun t189 => (if a1 ≥ 0 then (if (t189 == (decide (a1 ≤ 4))) = true then ((conf_Gate.f a1).bind fun t190 => (if a1 = 5 then (some (t190 == true)) else (some (t190 == (a1 == 6))))) else (some false)) else (if (t189 == false) = true then ((conf_Gate.f a1).bind fun t191 => (if a1 = 5 then (some (t191 == true)) else (some (t191 == (a1 == 6))))) else (some false)))) else (some false))) else (some false))) else (some false)) = some r := H
                        have A85 := Aside0.mk A850
                        clear A850
                        by_cases c86 : (t186 == x6_1) = true
                        · rw [if_pos c86] at H
                          have c86b0 : (t186 == x6_1) = true := c86
                          (try (have c86b1 : decide (t186 = x6_1) = true := by simpa using c86))
                          (try (have c86b2 : (t186 == x6_1) = true := by simpa using c86))
                          clear c86
                          replace H := Option.bind_eq_some_iff.mp H
                          obtain ⟨t187, A870, H⟩ := H
                          replace H : (if (t187 == x7_2) = true then ((conf_Behind.f k3 t163 t164 t165 t166 t169 a1).bind fun t188 => (if t188 = x8_2 then ((conf_Node.f a1).bind fun t189 => (if a1 ≥ 0 then (if (t189 == (decide (a1 ≤ 4))) = true then ((conf_Gate.f a1).bind fun t190 => (if a1 = 5 then (some (t190 == true)) else (some (t190 == (a1 == 6))))) else (some false)) else (if (t189 == false) = true then ((conf_Gate.f a1).bind fun t191 => (if a1 = 5 then (some (t191 == true)) else (some (t191 == (a1 == 6))))) else (some false)))) else (some false))) else (some false)) = some r := H
                          have A87 := Aside0.mk A870
                          clear A870
                          by_cases c88 : (t187 == x7_2) = true
                          · rw [if_pos c88] at H
                            have c88b0 : (t187 == x7_2) = true := c88
                            (try (have c88b1 : decide (t187 = x7_2) = true := by simpa using c88))
                            (try (have c88b2 : (t187 == x7_2) = true := by simpa using c88))
                            clear c88
                            replace H := Option.bind_eq_some_iff.mp H
                            obtain ⟨t188, A890, H⟩ := H
                            replace H : (if t188 = x8_2 then ((conf_Node.f a1).bind fun t189 => (if a1 ≥ 0 then (if (t189 == (decide (a1 ≤ 4))) = true then ((conf_Gate.f a1).bind fun t190 => (if a1 = 5 then (some (t190 == true)) else (some (t190 == (a1 == 6))))) else (some false)) else (if (t189 == false) = true then ((conf_Gate.f a1).bind fun t191 => (if a1 = 5 then (some (t191 == true)) else (some (t191 == (a1 == 6))))) else (some false)))) else (some false)) = some r := H
                            have A89 := Aside0.mk A890
                            clear A890
                            by_cases c90 : t188 = x8_2
                            · rw [if_pos c90] at H
                              have c90b0 : (t188 == x8_2) = true := beq_iff_eq.mpr c90
                              have c90b1 : (t188 != x8_2) = false := bne_eq_false_iff_eq.mpr c90
                              clear c90
                              replace H := Option.bind_eq_some_iff.mp H
                              obtain ⟨t189, A910, H⟩ := H
                              replace H : (if a1 ≥ 0 then (if (t189 == (decide (a1 ≤ 4))) = true then ((conf_Gate.f a1).bind fun t190 => (if a1 = 5 then (some (t190 == true)) else (some (t190 == (a1 == 6))))) else (some false)) else (if (t189 == false) = true then ((conf_Gate.f a1).bind fun t191 => (if a1 = 5 then (some (t191 == true)) else (some (t191 == (a1 == 6))))) else (some false))) = some r := H
                              have A91 := Aside0.mk A910
                              clear A910
                              by_cases c92 : a1 ≥ 0
                              · rw [if_pos c92] at H
                                have c92b0 : decide (0 ≤ a1) = true := decide_eq_true c92
                                clear c92
                                by_cases c93 : (t189 == (decide (a1 ≤ 4))) = true
                                · rw [if_pos c93] at H
                                  have c93b0 : (t189 == (decide (a1 ≤ 4))) = true := c93
                                  (try (have c93b1 : decide (t189 = (decide (a1 ≤ 4))) = true := by simpa using c93))
                                  (try (have c93b2 : (t189 == (decide (a1 ≤ 4))) = true := by simpa using c93))
                                  clear c93
                                  replace H := Option.bind_eq_some_iff.mp H
                                  obtain ⟨t190, A940, H⟩ := H
                                  replace H : (if a1 = 5 then (some (t190 == true)) else (some (t190 == (a1 == 6)))) = some r := H
                                  have A94 := Aside0.mk A940
                                  clear A940
                                  by_cases c95 : a1 = 5
                                  · rw [if_pos c95] at H
                                    have c95b0 : (a1 == 5) = true := beq_iff_eq.mpr c95
                                    have c95b1 : (a1 != 5) = false := bne_eq_false_iff_eq.mpr c95
                                    clear c95
                                    obtain rfl := Option.some.inj H
                                    go_wp2_with (first | ((with_reducible refine gate_callee (f := 27) rfl ?_); refine goesL_ (some 129) rfl rfl Try.func27 (by kernel_rfl) rfl #[] rfl (by (try simp only [List.map_toArray, List.map_cons, List.map_nil]); first | done | rfl | (simp only [List.length_drop, List.length_take]; rfl)) ?_; (with_reducible refine (tarnlaw11_awake.calls k3  true _ A82.out).mono ?_); rintro e w96 ⟨rfl, hb⟩; refine ⟨_, rfl, ?_⟩; have n0_ := Aside0.mk (Kd.R_below (by (with_reducible repeat (first | apply Kd.R_alloc | apply Kd.R_drewN | apply Kd.R_drew)); exact HO_11.out) hb); have n1_ := Aside0.mk (Kd.R_below (by (with_reducible repeat (first | apply Kd.R_alloc | apply Kd.R_drewN | apply Kd.R_drew)); exact HO_173003.out) hb); have n2_ := Aside0.mk (Kd.R_below (by (with_reducible repeat (first | apply Kd.R_alloc | apply Kd.R_drewN | apply Kd.R_drew)); exact HO_173004.out) hb); have n3_ := Aside0.mk (blk_below (g := gb162) (o := .cells #[.int .i64 a0_0, .int .i64 a0_1, .int .i64 a0_2, .slice A0_3 l0_3.length c0_3, .slice A0_4 l0_4.length c0_4] 31 (0, 0)) (by (with_reducible repeat (first | refine blk_drewN ?_ _ | refine blk_drew ?_ | refine blk_alloc ?_ _)); exact BK162.out) hb); have n4_ := Aside0.mk (blk_below (g := gb172) (o := .cells #[.int .i64 t163, .int .i64 t164, .int .i64 t165, .slice Ao10 t166.length co10, .slice Ao11 t169.length co11] 31 (0, 0)) (by (with_reducible repeat (first | refine blk_drewN ?_ _ | refine blk_drew ?_ | refine blk_alloc ?_ _)); exact BK172.out) hb); have n5_ := Aside0.mk (below_step (by repeat (first | (with_reducible first | exact HB.out | apply below_alloc | apply pw_below_drewN | apply below_drew1 | refine below_set ?_ GE162.out | refine below_set ?_ GE172.out) | exact HB.out)) hb); clear HO_11; clear HO_173003; clear HO_173004; clear BK162; clear BK172; clear HB; have HO_11 := n0_; have HO_173003 := n1_; have HO_173004 := n2_; have BK162 := n3_; have BK172 := n4_; have HB := n5_; clear n0_ n1_ n2_ n3_ n4_ n5_; (try clear hb); (try clear hb2); (try clear hk); (try clear hi); obtain ⟨Ao97, co97, eo97⟩ := Kd.R_slice HO_11.out; subst eo97; have hnb98 := NB172_162.out; have hnc98 := NB162_172.out; have hcz99_0 : w96.cell? ⟨gb172, 0, none⟩ = some (.int .i64 t163) := (blk_cell BK172.out 0).trans rfl; have hcz99_1 : w96.cell? ⟨gb172, 1, none⟩ = some (.int .i64 t164) := (blk_cell BK172.out 1).trans rfl; have hcz99_2 : w96.cell? ⟨gb172, 2, none⟩ = some (.int .i64 t165) := (blk_cell BK172.out 2).trans rfl; have hcz99_3 : w96.cell? ⟨gb172, 3, none⟩ = some (.slice Ao10 t166.length co10) := (blk_cell BK172.out 3).trans rfl; have hcz99_4 : w96.cell? ⟨gb172, 4, none⟩ = some (.slice Ao11 t169.length co11) := (blk_cell BK172.out 4).trans rfl; have hfz99_0 := blk_frozen BK172.out 0; have hfz99_1 := blk_frozen BK172.out 1; have hfz99_2 := blk_frozen BK172.out 2; have hfz99_3 := blk_frozen BK172.out 3; have hfz99_4 := blk_frozen BK172.out 4) | (go_at_call 42; (with_reducible refine (conf_Mirrors.calls k3 t163 t164 t165 _ _ t166 _ _ t169 a1 t186 _ ?side1 ?side2 ?side3 ?side4 A85.out).mono ?_); (case side1 => repeat (first | exact (Kd.R_reads' HO_173003.out).2.2 | (with_reducible refine Kd.C_alloc ?_ _) | (with_reducible refine Kd.C_drewN ?_ _) | (with_reducible refine Kd.C_drew ?_))); (case side2 => exact (Kd.R_reads' HO_173003.out).2.1); (case side3 => repeat (first | exact (Kd.R_reads' HO_173004.out).2.2 | (with_reducible refine Kd.C_alloc ?_ _) | (with_reducible refine Kd.C_drewN ?_ _) | (with_reducible refine Kd.C_drew ?_))); (case side4 => exact (Kd.R_reads' HO_173004.out).2.1); rintro e w100 ⟨rfl, hb⟩; have n0_ := Aside0.mk (Kd.R_below (by (with_reducible repeat (first | apply Kd.R_alloc | apply Kd.R_drewN | apply Kd.R_drew)); exact HO_11.out) hb); have n1_ := Aside0.mk (Kd.R_below (by (with_reducible repeat (first | apply Kd.R_alloc | apply Kd.R_drewN | apply Kd.R_drew)); exact HO_173003.out) hb); have n2_ := Aside0.mk (Kd.R_below (by (with_reducible repeat (first | apply Kd.R_alloc | apply Kd.R_drewN | apply Kd.R_drew)); exact HO_173004.out) hb); have n3_ := Aside0.mk (blk_below (g := gb162) (o := .cells #[.int .i64 a0_0, .int .i64 a0_1, .int .i64 a0_2, .slice A0_3 l0_3.length c0_3, .slice A0_4 l0_4.length c0_4] 31 (0, 0)) (by (with_reducible repeat (first | refine blk_drewN ?_ _ | refine blk_drew ?_ | refine blk_alloc ?_ _)); exact BK162.out) hb); have n4_ := Aside0.mk (blk_below (g := gb172) (o := .cells #[.int .i64 t163, .int .i64 t164, .int .i64 t165, .slice Ao10 t166.length co10, .slice Ao11 t169.length co11] 31 (0, 0)) (by (with_reducible repeat (first | refine blk_drewN ?_ _ | refine blk_drew ?_ | refine blk_alloc ?_ _)); exact BK172.out) hb); have n5_ := Aside0.mk (below_step (by repeat (first | (with_reducible first | exact HB.out | apply below_alloc | apply pw_below_drewN | apply below_drew1 | refine below_set ?_ GE162.out | refine below_set ?_ GE172.out) | exact HB.out)) hb); clear HO_11; clear HO_173003; clear HO_173004; clear BK162; clear BK172; clear HB; have HO_11 := n0_; have HO_173003 := n1_; have HO_173004 := n2_; have BK162 := n3_; have BK172 := n4_; have HB := n5_; clear n0_ n1_ n2_ n3_ n4_ n5_; (try clear hb); (try clear hb2); (try clear hk); (try clear hi); have hcz101_0 : w100.cell? ⟨gb172, 0, none⟩ = some (.int .i64 t163) := (blk_cell BK172.out 0).trans rfl; have hcz101_1 : w100.cell? ⟨gb172, 1, none⟩ = some (.int .i64 t164) := (blk_cell BK172.out 1).trans rfl; have hcz101_2 : w100.cell? ⟨gb172, 2, none⟩ = some (.int .i64 t165) := (blk_cell BK172.out 2).trans rfl; have hcz101_3 : w100.cell? ⟨gb172, 3, none⟩ = some (.slice Ao10 t166.length co10) := (blk_cell BK172.out 3).trans rfl; have hcz101_4 : w100.cell? ⟨gb172, 4, none⟩ = some (.slice Ao11 t169.length co11) := (blk_cell BK172.out 4).trans rfl; have hfz101_0 := blk_frozen BK172.out 0; have hfz101_1 := blk_frozen BK172.out 1; have hfz101_2 := blk_frozen BK172.out 2; have hfz101_3 := blk_frozen BK172.out 3; have hfz101_4 := blk_frozen BK172.out 4) | (go_at_call 43; (with_reducible refine (conf_Chains.calls k3 t163 t164 t165 _ _ t166 _ _ t169 a1 t187 _ ?side1 ?side2 ?side3 ?side4 A87.out).mono ?_); (case side1 => repeat (first | exact (Kd.R_reads' HO_173003.out).2.2 | (with_reducible refine Kd.C_alloc ?_ _) | (with_reducible refine Kd.C_drewN ?_ _) | (with_reducible refine Kd.C_drew ?_))); (case side2 => exact (Kd.R_reads' HO_173003.out).2.1); (case side3 => repeat (first | exact (Kd.R_reads' HO_173004.out).2.2 | (with_reducible refine Kd.C_alloc ?_ _) | (with_reducible refine Kd.C_drewN ?_ _) | (with_reducible refine Kd.C_drew ?_))); (case side4 => exact (Kd.R_reads' HO_173004.out).2.1); rintro e w102 ⟨rfl, hb⟩; have n0_ := Aside0.mk (Kd.R_below (by (with_reducible repeat (first | apply Kd.R_alloc | apply Kd.R_drewN | apply Kd.R_drew)); exact HO_11.out) hb); have n1_ := Aside0.mk (Kd.R_below (by (with_reducible repeat (first | apply Kd.R_alloc | apply Kd.R_drewN | apply Kd.R_drew)); exact HO_173003.out) hb); have n2_ := Aside0.mk (Kd.R_below (by (with_reducible repeat (first | apply Kd.R_alloc | apply Kd.R_drewN | apply Kd.R_drew)); exact HO_173004.out) hb); have n3_ := Aside0.mk (blk_below (g := gb162) (o := .cells #[.int .i64 a0_0, .int .i64 a0_1, .int .i64 a0_2, .slice A0_3 l0_3.length c0_3, .slice A0_4 l0_4.length c0_4] 31 (0, 0)) (by (with_reducible repeat (first | refine blk_drewN ?_ _ | refine blk_drew ?_ | refine blk_alloc ?_ _)); exact BK162.out) hb); have n4_ := Aside0.mk (blk_below (g := gb172) (o := .cells #[.int .i64 t163, .int .i64 t164, .int .i64 t165, .slice Ao10 t166.length co10, .slice Ao11 t169.length co11] 31 (0, 0)) (by (with_reducible repeat (first | refine blk_drewN ?_ _ | refine blk_drew ?_ | refine blk_alloc ?_ _)); exact BK172.out) hb); have n5_ := Aside0.mk (below_step (by repeat (first | (with_reducible first | exact HB.out | apply below_alloc | apply pw_below_drewN | apply below_drew1 | refine below_set ?_ GE162.out | refine below_set ?_ GE172.out) | exact HB.out)) hb); clear HO_11; clear HO_173003; clear HO_173004; clear BK162; clear BK172; clear HB; have HO_11 := n0_; have HO_173003 := n1_; have HO_173004 := n2_; have BK162 := n3_; have BK172 := n4_; have HB := n5_; clear n0_ n1_ n2_ n3_ n4_ n5_; (try clear hb); (try clear hb2); (try clear hk); (try clear hi); have hcz103_0 : w102.cell? ⟨gb172, 0, none⟩ = some (.int .i64 t163) := (blk_cell BK172.out 0).trans rfl; have hcz103_1 : w102.cell? ⟨gb172, 1, none⟩ = some (.int .i64 t164) := (blk_cell BK172.out 1).trans rfl; have hcz103_2 : w102.cell? ⟨gb172, 2, none⟩ = some (.int .i64 t165) := (blk_cell BK172.out 2).trans rfl; have hcz103_3 : w102.cell? ⟨gb172, 3, none⟩ = some (.slice Ao10 t166.length co10) := (blk_cell BK172.out 3).trans rfl; have hcz103_4 : w102.cell? ⟨gb172, 4, none⟩ = some (.slice Ao11 t169.length co11) := (blk_cell BK172.out 4).trans rfl; have hfz103_0 := blk_frozen BK172.out 0; have hfz103_1 := blk_frozen BK172.out 1; have hfz103_2 := blk_frozen BK172.out 2; have hfz103_3 := blk_frozen BK172.out 3; have hfz103_4 := blk_frozen BK172.out 4) | (go_at_call 44; (with_reducible refine (conf_Behind.calls k3 t163 t164 t165 _ _ t166 _ _ t169 a1 t188 _ ?side1 ?side2 ?side3 ?side4 A89.out).mono ?_); (case side1 => repeat (first | exact (Kd.R_reads' HO_173003.out).2.2 | (with_reducible refine Kd.C_alloc ?_ _) | (with_reducible refine Kd.C_drewN ?_ _) | (with_reducible refine Kd.C_drew ?_))); (case side2 => exact (Kd.R_reads' HO_173003.out).2.1); (case side3 => repeat (first | exact (Kd.R_reads' HO_173004.out).2.2 | (with_reducible refine Kd.C_alloc ?_ _) | (with_reducible refine Kd.C_drewN ?_ _) | (with_reducible refine Kd.C_drew ?_))); (case side4 => exact (Kd.R_reads' HO_173004.out).2.1); rintro e w104 ⟨rfl, hb⟩; have n0_ := Aside0.mk (Kd.R_below (by (with_reducible repeat (first | apply Kd.R_alloc | apply Kd.R_drewN | apply Kd.R_drew)); exact HO_11.out) hb); have n1_ := Aside0.mk (Kd.R_below (by (with_reducible repeat (first | apply Kd.R_alloc | apply Kd.R_drewN | apply Kd.R_drew)); exact HO_173003.out) hb); have n2_ := Aside0.mk (Kd.R_below (by (with_reducible repeat (first | apply Kd.R_alloc | apply Kd.R_drewN | apply Kd.R_drew)); exact HO_173004.out) hb); have n3_ := Aside0.mk (blk_below (g := gb162) (o := .cells #[.int .i64 a0_0, .int .i64 a0_1, .int .i64 a0_2, .slice A0_3 l0_3.length c0_3, .slice A0_4 l0_4.length c0_4] 31 (0, 0)) (by (with_reducible repeat (first | refine blk_drewN ?_ _ | refine blk_drew ?_ | refine blk_alloc ?_ _)); exact BK162.out) hb); have n4_ := Aside0.mk (blk_below (g := gb172) (o := .cells #[.int .i64 t163, .int .i64 t164, .int .i64 t165, .slice Ao10 t166.length co10, .slice Ao11 t169.length co11] 31 (0, 0)) (by (with_reducible repeat (first | refine blk_drewN ?_ _ | refine blk_drew ?_ | refine blk_alloc ?_ _)); exact BK172.out) hb); have n5_ := Aside0.mk (below_step (by repeat (first | (with_reducible first | exact HB.out | apply below_alloc | apply pw_below_drewN | apply below_drew1 | refine below_set ?_ GE162.out | refine below_set ?_ GE172.out) | exact HB.out)) hb); clear HO_11; clear HO_173003; clear HO_173004; clear BK162; clear BK172; clear HB; have HO_11 := n0_; have HO_173003 := n1_; have HO_173004 := n2_; have BK162 := n3_; have BK172 := n4_; have HB := n5_; clear n0_ n1_ n2_ n3_ n4_ n5_; (try clear hb); (try clear hb2); (try clear hk); (try clear hi)) | (go_at_call 45; (with_reducible refine (conf_Node.calls a1 t189 _ A91.out).mono ?_); rintro e w' ⟨rfl, ⟨nd, rfl⟩⟩) | (go_at_call 46; (with_reducible refine (conf_Gate.calls a1 t190 _ A94.out).mono ?_); rintro e w' ⟨rfl, ⟨nd, rfl⟩⟩))
                                    go_ret
                                    exact ⟨by first | rfl | (simp [errW_none, errW_some] <;> rfl) | (simp [*, errW_none, errW_some] <;> rfl), by repeat (first | (with_reducible first | exact HB.out | apply below_alloc | apply pw_below_drewN | apply below_drew1 | refine below_set ?_ GE162.out | refine below_set ?_ GE172.out) | exact HB.out)⟩
                                  · rw [if_neg c95] at H
                                    have c95b0 : (a1 == 5) = false := beq_eq_false_iff_ne.mpr c95
                                    have c95b1 : (a1 != 5) = true := bne_iff_ne.mpr c95
                                    obtain rfl := Option.some.inj H
                                    go_wp2_with (first | ((with_reducible refine gate_callee (f := 27) rfl ?_); refine goesL_ (some 129) rfl rfl Try.func27 (by kernel_rfl) rfl #[] rfl (by (try simp only [List.map_toArray, List.map_cons, List.map_nil]); first | done | rfl | (simp only [List.length_drop, List.length_take]; rfl)) ?_; (with_reducible refine (tarnlaw11_awake.calls k3  true _ A82.out).mono ?_); rintro e w105 ⟨rfl, hb⟩; refine ⟨_, rfl, ?_⟩; have n0_ := Aside0.mk (Kd.R_below (by (with_reducible repeat (first | apply Kd.R_alloc | apply Kd.R_drewN | apply Kd.R_drew)); exact HO_11.out) hb); have n1_ := Aside0.mk (Kd.R_below (by (with_reducible repeat (first | apply Kd.R_alloc | apply Kd.R_drewN | apply Kd.R_drew)); exact HO_173003.out) hb); have n2_ := Aside0.mk (Kd.R_below (by (with_reducible repeat (first | apply Kd.R_alloc | apply Kd.R_drewN | apply Kd.R_drew)); exact HO_173004.out) hb); have n3_ := Aside0.mk (blk_below (g := gb162) (o := .cells #[.int .i64 a0_0, .int .i64 a0_1, .int .i64 a0_2, .slice A0_3 l0_3.length c0_3, .slice A0_4 l0_4.length c0_4] 31 (0, 0)) (by (with_reducible repeat (first | refine blk_drewN ?_ _ | refine blk_drew ?_ | refine blk_alloc ?_ _)); exact BK162.out) hb); have n4_ := Aside0.mk (blk_below (g := gb172) (o := .cells #[.int .i64 t163, .int .i64 t164, .int .i64 t165, .slice Ao10 t166.length co10, .slice Ao11 t169.length co11] 31 (0, 0)) (by (with_reducible repeat (first | refine blk_drewN ?_ _ | refine blk_drew ?_ | refine blk_alloc ?_ _)); exact BK172.out) hb); have n5_ := Aside0.mk (below_step (by repeat (first | (with_reducible first | exact HB.out | apply below_alloc | apply pw_below_drewN | apply below_drew1 | refine below_set ?_ GE162.out | refine below_set ?_ GE172.out) | exact HB.out)) hb); clear HO_11; clear HO_173003; clear HO_173004; clear BK162; clear BK172; clear HB; have HO_11 := n0_; have HO_173003 := n1_; have HO_173004 := n2_; have BK162 := n3_; have BK172 := n4_; have HB := n5_; clear n0_ n1_ n2_ n3_ n4_ n5_; (try clear hb); (try clear hb2); (try clear hk); (try clear hi); obtain ⟨Ao106, co106, eo106⟩ := Kd.R_slice HO_11.out; subst eo106; have hnb107 := NB172_162.out; have hnc107 := NB162_172.out; have hcz108_0 : w105.cell? ⟨gb172, 0, none⟩ = some (.int .i64 t163) := (blk_cell BK172.out 0).trans rfl; have hcz108_1 : w105.cell? ⟨gb172, 1, none⟩ = some (.int .i64 t164) := (blk_cell BK172.out 1).trans rfl; have hcz108_2 : w105.cell? ⟨gb172, 2, none⟩ = some (.int .i64 t165) := (blk_cell BK172.out 2).trans rfl; have hcz108_3 : w105.cell? ⟨gb172, 3, none⟩ = some (.slice Ao10 t166.length co10) := (blk_cell BK172.out 3).trans rfl; have hcz108_4 : w105.cell? ⟨gb172, 4, none⟩ = some (.slice Ao11 t169.length co11) := (blk_cell BK172.out 4).trans rfl; have hfz108_0 := blk_frozen BK172.out 0; have hfz108_1 := blk_frozen BK172.out 1; have hfz108_2 := blk_frozen BK172.out 2; have hfz108_3 := blk_frozen BK172.out 3; have hfz108_4 := blk_frozen BK172.out 4) | (go_at_call 42; (with_reducible refine (conf_Mirrors.calls k3 t163 t164 t165 _ _ t166 _ _ t169 a1 t186 _ ?side1 ?side2 ?side3 ?side4 A85.out).mono ?_); (case side1 => repeat (first | exact (Kd.R_reads' HO_173003.out).2.2 | (with_reducible refine Kd.C_alloc ?_ _) | (with_reducible refine Kd.C_drewN ?_ _) | (with_reducible refine Kd.C_drew ?_))); (case side2 => exact (Kd.R_reads' HO_173003.out).2.1); (case side3 => repeat (first | exact (Kd.R_reads' HO_173004.out).2.2 | (with_reducible refine Kd.C_alloc ?_ _) | (with_reducible refine Kd.C_drewN ?_ _) | (with_reducible refine Kd.C_drew ?_))); (case side4 => exact (Kd.R_reads' HO_173004.out).2.1); rintro e w109 ⟨rfl, hb⟩; have n0_ := Aside0.mk (Kd.R_below (by (with_reducible repeat (first | apply Kd.R_alloc | apply Kd.R_drewN | apply Kd.R_drew)); exact HO_11.out) hb); have n1_ := Aside0.mk (Kd.R_below (by (with_reducible repeat (first | apply Kd.R_alloc | apply Kd.R_drewN | apply Kd.R_drew)); exact HO_173003.out) hb); have n2_ := Aside0.mk (Kd.R_below (by (with_reducible repeat (first | apply Kd.R_alloc | apply Kd.R_drewN | apply Kd.R_drew)); exact HO_173004.out) hb); have n3_ := Aside0.mk (blk_below (g := gb162) (o := .cells #[.int .i64 a0_0, .int .i64 a0_1, .int .i64 a0_2, .slice A0_3 l0_3.length c0_3, .slice A0_4 l0_4.length c0_4] 31 (0, 0)) (by (with_reducible repeat (first | refine blk_drewN ?_ _ | refine blk_drew ?_ | refine blk_alloc ?_ _)); exact BK162.out) hb); have n4_ := Aside0.mk (blk_below (g := gb172) (o := .cells #[.int .i64 t163, .int .i64 t164, .int .i64 t165, .slice Ao10 t166.length co10, .slice Ao11 t169.length co11] 31 (0, 0)) (by (with_reducible repeat (first | refine blk_drewN ?_ _ | refine blk_drew ?_ | refine blk_alloc ?_ _)); exact BK172.out) hb); have n5_ := Aside0.mk (below_step (by repeat (first | (with_reducible first | exact HB.out | apply below_alloc | apply pw_below_drewN | apply below_drew1 | refine below_set ?_ GE162.out | refine below_set ?_ GE172.out) | exact HB.out)) hb); clear HO_11; clear HO_173003; clear HO_173004; clear BK162; clear BK172; clear HB; have HO_11 := n0_; have HO_173003 := n1_; have HO_173004 := n2_; have BK162 := n3_; have BK172 := n4_; have HB := n5_; clear n0_ n1_ n2_ n3_ n4_ n5_; (try clear hb); (try clear hb2); (try clear hk); (try clear hi); have hcz110_0 : w109.cell? ⟨gb172, 0, none⟩ = some (.int .i64 t163) := (blk_cell BK172.out 0).trans rfl; have hcz110_1 : w109.cell? ⟨gb172, 1, none⟩ = some (.int .i64 t164) := (blk_cell BK172.out 1).trans rfl; have hcz110_2 : w109.cell? ⟨gb172, 2, none⟩ = some (.int .i64 t165) := (blk_cell BK172.out 2).trans rfl; have hcz110_3 : w109.cell? ⟨gb172, 3, none⟩ = some (.slice Ao10 t166.length co10) := (blk_cell BK172.out 3).trans rfl; have hcz110_4 : w109.cell? ⟨gb172, 4, none⟩ = some (.slice Ao11 t169.length co11) := (blk_cell BK172.out 4).trans rfl; have hfz110_0 := blk_frozen BK172.out 0; have hfz110_1 := blk_frozen BK172.out 1; have hfz110_2 := blk_frozen BK172.out 2; have hfz110_3 := blk_frozen BK172.out 3; have hfz110_4 := blk_frozen BK172.out 4) | (go_at_call 43; (with_reducible refine (conf_Chains.calls k3 t163 t164 t165 _ _ t166 _ _ t169 a1 t187 _ ?side1 ?side2 ?side3 ?side4 A87.out).mono ?_); (case side1 => repeat (first | exact (Kd.R_reads' HO_173003.out).2.2 | (with_reducible refine Kd.C_alloc ?_ _) | (with_reducible refine Kd.C_drewN ?_ _) | (with_reducible refine Kd.C_drew ?_))); (case side2 => exact (Kd.R_reads' HO_173003.out).2.1); (case side3 => repeat (first | exact (Kd.R_reads' HO_173004.out).2.2 | (with_reducible refine Kd.C_alloc ?_ _) | (with_reducible refine Kd.C_drewN ?_ _) | (with_reducible refine Kd.C_drew ?_))); (case side4 => exact (Kd.R_reads' HO_173004.out).2.1); rintro e w111 ⟨rfl, hb⟩; have n0_ := Aside0.mk (Kd.R_below (by (with_reducible repeat (first | apply Kd.R_alloc | apply Kd.R_drewN | apply Kd.R_drew)); exact HO_11.out) hb); have n1_ := Aside0.mk (Kd.R_below (by (with_reducible repeat (first | apply Kd.R_alloc | apply Kd.R_drewN | apply Kd.R_drew)); exact HO_173003.out) hb); have n2_ := Aside0.mk (Kd.R_below (by (with_reducible repeat (first | apply Kd.R_alloc | apply Kd.R_drewN | apply Kd.R_drew)); exact HO_173004.out) hb); have n3_ := Aside0.mk (blk_below (g := gb162) (o := .cells #[.int .i64 a0_0, .int .i64 a0_1, .int .i64 a0_2, .slice A0_3 l0_3.length c0_3, .slice A0_4 l0_4.length c0_4] 31 (0, 0)) (by (with_reducible repeat (first | refine blk_drewN ?_ _ | refine blk_drew ?_ | refine blk_alloc ?_ _)); exact BK162.out) hb); have n4_ := Aside0.mk (blk_below (g := gb172) (o := .cells #[.int .i64 t163, .int .i64 t164, .int .i64 t165, .slice Ao10 t166.length co10, .slice Ao11 t169.length co11] 31 (0, 0)) (by (with_reducible repeat (first | refine blk_drewN ?_ _ | refine blk_drew ?_ | refine blk_alloc ?_ _)); exact BK172.out) hb); have n5_ := Aside0.mk (below_step (by repeat (first | (with_reducible first | exact HB.out | apply below_alloc | apply pw_below_drewN | apply below_drew1 | refine below_set ?_ GE162.out | refine below_set ?_ GE172.out) | exact HB.out)) hb); clear HO_11; clear HO_173003; clear HO_173004; clear BK162; clear BK172; clear HB; have HO_11 := n0_; have HO_173003 := n1_; have HO_173004 := n2_; have BK162 := n3_; have BK172 := n4_; have HB := n5_; clear n0_ n1_ n2_ n3_ n4_ n5_; (try clear hb); (try clear hb2); (try clear hk); (try clear hi); have hcz112_0 : w111.cell? ⟨gb172, 0, none⟩ = some (.int .i64 t163) := (blk_cell BK172.out 0).trans rfl; have hcz112_1 : w111.cell? ⟨gb172, 1, none⟩ = some (.int .i64 t164) := (blk_cell BK172.out 1).trans rfl; have hcz112_2 : w111.cell? ⟨gb172, 2, none⟩ = some (.int .i64 t165) := (blk_cell BK172.out 2).trans rfl; have hcz112_3 : w111.cell? ⟨gb172, 3, none⟩ = some (.slice Ao10 t166.length co10) := (blk_cell BK172.out 3).trans rfl; have hcz112_4 : w111.cell? ⟨gb172, 4, none⟩ = some (.slice Ao11 t169.length co11) := (blk_cell BK172.out 4).trans rfl; have hfz112_0 := blk_frozen BK172.out 0; have hfz112_1 := blk_frozen BK172.out 1; have hfz112_2 := blk_frozen BK172.out 2; have hfz112_3 := blk_frozen BK172.out 3; have hfz112_4 := blk_frozen BK172.out 4) | (go_at_call 44; (with_reducible refine (conf_Behind.calls k3 t163 t164 t165 _ _ t166 _ _ t169 a1 t188 _ ?side1 ?side2 ?side3 ?side4 A89.out).mono ?_); (case side1 => repeat (first | exact (Kd.R_reads' HO_173003.out).2.2 | (with_reducible refine Kd.C_alloc ?_ _) | (with_reducible refine Kd.C_drewN ?_ _) | (with_reducible refine Kd.C_drew ?_))); (case side2 => exact (Kd.R_reads' HO_173003.out).2.1); (case side3 => repeat (first | exact (Kd.R_reads' HO_173004.out).2.2 | (with_reducible refine Kd.C_alloc ?_ _) | (with_reducible refine Kd.C_drewN ?_ _) | (with_reducible refine Kd.C_drew ?_))); (case side4 => exact (Kd.R_reads' HO_173004.out).2.1); rintro e w113 ⟨rfl, hb⟩; have n0_ := Aside0.mk (Kd.R_below (by (with_reducible repeat (first | apply Kd.R_alloc | apply Kd.R_drewN | apply Kd.R_drew)); exact HO_11.out) hb); have n1_ := Aside0.mk (Kd.R_below (by (with_reducible repeat (first | apply Kd.R_alloc | apply Kd.R_drewN | apply Kd.R_drew)); exact HO_173003.out) hb); have n2_ := Aside0.mk (Kd.R_below (by (with_reducible repeat (first | apply Kd.R_alloc | apply Kd.R_drewN | apply Kd.R_drew)); exact HO_173004.out) hb); have n3_ := Aside0.mk (blk_below (g := gb162) (o := .cells #[.int .i64 a0_0, .int .i64 a0_1, .int .i64 a0_2, .slice A0_3 l0_3.length c0_3, .slice A0_4 l0_4.length c0_4] 31 (0, 0)) (by (with_reducible repeat (first | refine blk_drewN ?_ _ | refine blk_drew ?_ | refine blk_alloc ?_ _)); exact BK162.out) hb); have n4_ := Aside0.mk (blk_below (g := gb172) (o := .cells #[.int .i64 t163, .int .i64 t164, .int .i64 t165, .slice Ao10 t166.length co10, .slice Ao11 t169.length co11] 31 (0, 0)) (by (with_reducible repeat (first | refine blk_drewN ?_ _ | refine blk_drew ?_ | refine blk_alloc ?_ _)); exact BK172.out) hb); have n5_ := Aside0.mk (below_step (by repeat (first | (with_reducible first | exact HB.out | apply below_alloc | apply pw_below_drewN | apply below_drew1 | refine below_set ?_ GE162.out | refine below_set ?_ GE172.out) | exact HB.out)) hb); clear HO_11; clear HO_173003; clear HO_173004; clear BK162; clear BK172; clear HB; have HO_11 := n0_; have HO_173003 := n1_; have HO_173004 := n2_; have BK162 := n3_; have BK172 := n4_; have HB := n5_; clear n0_ n1_ n2_ n3_ n4_ n5_; (try clear hb); (try clear hb2); (try clear hk); (try clear hi)) | (go_at_call 45; (with_reducible refine (conf_Node.calls a1 t189 _ A91.out).mono ?_); rintro e w' ⟨rfl, ⟨nd, rfl⟩⟩) | (go_at_call 46; (with_reducible refine (conf_Gate.calls a1 t190 _ A94.out).mono ?_); rintro e w' ⟨rfl, ⟨nd, rfl⟩⟩))
                                    go_ret
                                    exact ⟨by first | rfl | (simp [errW_none, errW_some] <;> rfl) | (simp [*, errW_none, errW_some] <;> rfl), by repeat (first | (with_reducible first | exact HB.out | apply below_alloc | apply pw_below_drewN | apply below_drew1 | refine below_set ?_ GE162.out | refine below_set ?_ GE172.out) | exact HB.out)⟩
                                · rw [if_neg c93] at H
                                  have c93b0 : (t189 == (decide (a1 ≤ 4))) = false := by simpa using c93
                                  (try (have c93b1 : decide (t189 = (decide (a1 ≤ 4))) = false := by simpa using c93))
                                  (try (have c93b2 : (t189 == (decide (a1 ≤ 4))) = false := by simpa using c93))
                                  (try (have c93b3 : ¬ (t189 = (decide (a1 ≤ 4))) := by simpa using c93))
                                  clear c93
                                  obtain rfl := Option.some.inj H
                                  go_wp2_with (first | ((with_reducible refine gate_callee (f := 27) rfl ?_); refine goesL_ (some 129) rfl rfl Try.func27 (by kernel_rfl) rfl #[] rfl (by (try simp only [List.map_toArray, List.map_cons, List.map_nil]); first | done | rfl | (simp only [List.length_drop, List.length_take]; rfl)) ?_; (with_reducible refine (tarnlaw11_awake.calls k3  true _ A82.out).mono ?_); rintro e w114 ⟨rfl, hb⟩; refine ⟨_, rfl, ?_⟩; have n0_ := Aside0.mk (Kd.R_below (by (with_reducible repeat (first | apply Kd.R_alloc | apply Kd.R_drewN | apply Kd.R_drew)); exact HO_11.out) hb); have n1_ := Aside0.mk (Kd.R_below (by (with_reducible repeat (first | apply Kd.R_alloc | apply Kd.R_drewN | apply Kd.R_drew)); exact HO_173003.out) hb); have n2_ := Aside0.mk (Kd.R_below (by (with_reducible repeat (first | apply Kd.R_alloc | apply Kd.R_drewN | apply Kd.R_drew)); exact HO_173004.out) hb); have n3_ := Aside0.mk (blk_below (g := gb162) (o := .cells #[.int .i64 a0_0, .int .i64 a0_1, .int .i64 a0_2, .slice A0_3 l0_3.length c0_3, .slice A0_4 l0_4.length c0_4] 31 (0, 0)) (by (with_reducible repeat (first | refine blk_drewN ?_ _ | refine blk_drew ?_ | refine blk_alloc ?_ _)); exact BK162.out) hb); have n4_ := Aside0.mk (blk_below (g := gb172) (o := .cells #[.int .i64 t163, .int .i64 t164, .int .i64 t165, .slice Ao10 t166.length co10, .slice Ao11 t169.length co11] 31 (0, 0)) (by (with_reducible repeat (first | refine blk_drewN ?_ _ | refine blk_drew ?_ | refine blk_alloc ?_ _)); exact BK172.out) hb); have n5_ := Aside0.mk (below_step (by repeat (first | (with_reducible first | exact HB.out | apply below_alloc | apply pw_below_drewN | apply below_drew1 | refine below_set ?_ GE162.out | refine below_set ?_ GE172.out) | exact HB.out)) hb); clear HO_11; clear HO_173003; clear HO_173004; clear BK162; clear BK172; clear HB; have HO_11 := n0_; have HO_173003 := n1_; have HO_173004 := n2_; have BK162 := n3_; have BK172 := n4_; have HB := n5_; clear n0_ n1_ n2_ n3_ n4_ n5_; (try clear hb); (try clear hb2); (try clear hk); (try clear hi); obtain ⟨Ao115, co115, eo115⟩ := Kd.R_slice HO_11.out; subst eo115; have hnb116 := NB172_162.out; have hnc116 := NB162_172.out; have hcz117_0 : w114.cell? ⟨gb172, 0, none⟩ = some (.int .i64 t163) := (blk_cell BK172.out 0).trans rfl; have hcz117_1 : w114.cell? ⟨gb172, 1, none⟩ = some (.int .i64 t164) := (blk_cell BK172.out 1).trans rfl; have hcz117_2 : w114.cell? ⟨gb172, 2, none⟩ = some (.int .i64 t165) := (blk_cell BK172.out 2).trans rfl; have hcz117_3 : w114.cell? ⟨gb172, 3, none⟩ = some (.slice Ao10 t166.length co10) := (blk_cell BK172.out 3).trans rfl; have hcz117_4 : w114.cell? ⟨gb172, 4, none⟩ = some (.slice Ao11 t169.length co11) := (blk_cell BK172.out 4).trans rfl; have hfz117_0 := blk_frozen BK172.out 0; have hfz117_1 := blk_frozen BK172.out 1; have hfz117_2 := blk_frozen BK172.out 2; have hfz117_3 := blk_frozen BK172.out 3; have hfz117_4 := blk_frozen BK172.out 4) | (go_at_call 42; (with_reducible refine (conf_Mirrors.calls k3 t163 t164 t165 _ _ t166 _ _ t169 a1 t186 _ ?side1 ?side2 ?side3 ?side4 A85.out).mono ?_); (case side1 => repeat (first | exact (Kd.R_reads' HO_173003.out).2.2 | (with_reducible refine Kd.C_alloc ?_ _) | (with_reducible refine Kd.C_drewN ?_ _) | (with_reducible refine Kd.C_drew ?_))); (case side2 => exact (Kd.R_reads' HO_173003.out).2.1); (case side3 => repeat (first | exact (Kd.R_reads' HO_173004.out).2.2 | (with_reducible refine Kd.C_alloc ?_ _) | (with_reducible refine Kd.C_drewN ?_ _) | (with_reducible refine Kd.C_drew ?_))); (case side4 => exact (Kd.R_reads' HO_173004.out).2.1); rintro e w118 ⟨rfl, hb⟩; have n0_ := Aside0.mk (Kd.R_below (by (with_reducible repeat (first | apply Kd.R_alloc | apply Kd.R_drewN | apply Kd.R_drew)); exact HO_11.out) hb); have n1_ := Aside0.mk (Kd.R_below (by (with_reducible repeat (first | apply Kd.R_alloc | apply Kd.R_drewN | apply Kd.R_drew)); exact HO_173003.out) hb); have n2_ := Aside0.mk (Kd.R_below (by (with_reducible repeat (first | apply Kd.R_alloc | apply Kd.R_drewN | apply Kd.R_drew)); exact HO_173004.out) hb); have n3_ := Aside0.mk (blk_below (g := gb162) (o := .cells #[.int .i64 a0_0, .int .i64 a0_1, .int .i64 a0_2, .slice A0_3 l0_3.length c0_3, .slice A0_4 l0_4.length c0_4] 31 (0, 0)) (by (with_reducible repeat (first | refine blk_drewN ?_ _ | refine blk_drew ?_ | refine blk_alloc ?_ _)); exact BK162.out) hb); have n4_ := Aside0.mk (blk_below (g := gb172) (o := .cells #[.int .i64 t163, .int .i64 t164, .int .i64 t165, .slice Ao10 t166.length co10, .slice Ao11 t169.length co11] 31 (0, 0)) (by (with_reducible repeat (first | refine blk_drewN ?_ _ | refine blk_drew ?_ | refine blk_alloc ?_ _)); exact BK172.out) hb); have n5_ := Aside0.mk (below_step (by repeat (first | (with_reducible first | exact HB.out | apply below_alloc | apply pw_below_drewN | apply below_drew1 | refine below_set ?_ GE162.out | refine below_set ?_ GE172.out) | exact HB.out)) hb); clear HO_11; clear HO_173003; clear HO_173004; clear BK162; clear BK172; clear HB; have HO_11 := n0_; have HO_173003 := n1_; have HO_173004 := n2_; have BK162 := n3_; have BK172 := n4_; have HB := n5_; clear n0_ n1_ n2_ n3_ n4_ n5_; (try clear hb); (try clear hb2); (try clear hk); (try clear hi); have hcz119_0 : w118.cell? ⟨gb172, 0, none⟩ = some (.int .i64 t163) := (blk_cell BK172.out 0).trans rfl; have hcz119_1 : w118.cell? ⟨gb172, 1, none⟩ = some (.int .i64 t164) := (blk_cell BK172.out 1).trans rfl; have hcz119_2 : w118.cell? ⟨gb172, 2, none⟩ = some (.int .i64 t165) := (blk_cell BK172.out 2).trans rfl; have hcz119_3 : w118.cell? ⟨gb172, 3, none⟩ = some (.slice Ao10 t166.length co10) := (blk_cell BK172.out 3).trans rfl; have hcz119_4 : w118.cell? ⟨gb172, 4, none⟩ = some (.slice Ao11 t169.length co11) := (blk_cell BK172.out 4).trans rfl; have hfz119_0 := blk_frozen BK172.out 0; have hfz119_1 := blk_frozen BK172.out 1; have hfz119_2 := blk_frozen BK172.out 2; have hfz119_3 := blk_frozen BK172.out 3; have hfz119_4 := blk_frozen BK172.out 4) | (go_at_call 43; (with_reducible refine (conf_Chains.calls k3 t163 t164 t165 _ _ t166 _ _ t169 a1 t187 _ ?side1 ?side2 ?side3 ?side4 A87.out).mono ?_); (case side1 => repeat (first | exact (Kd.R_reads' HO_173003.out).2.2 | (with_reducible refine Kd.C_alloc ?_ _) | (with_reducible refine Kd.C_drewN ?_ _) | (with_reducible refine Kd.C_drew ?_))); (case side2 => exact (Kd.R_reads' HO_173003.out).2.1); (case side3 => repeat (first | exact (Kd.R_reads' HO_173004.out).2.2 | (with_reducible refine Kd.C_alloc ?_ _) | (with_reducible refine Kd.C_drewN ?_ _) | (with_reducible refine Kd.C_drew ?_))); (case side4 => exact (Kd.R_reads' HO_173004.out).2.1); rintro e w120 ⟨rfl, hb⟩; have n0_ := Aside0.mk (Kd.R_below (by (with_reducible repeat (first | apply Kd.R_alloc | apply Kd.R_drewN | apply Kd.R_drew)); exact HO_11.out) hb); have n1_ := Aside0.mk (Kd.R_below (by (with_reducible repeat (first | apply Kd.R_alloc | apply Kd.R_drewN | apply Kd.R_drew)); exact HO_173003.out) hb); have n2_ := Aside0.mk (Kd.R_below (by (with_reducible repeat (first | apply Kd.R_alloc | apply Kd.R_drewN | apply Kd.R_drew)); exact HO_173004.out) hb); have n3_ := Aside0.mk (blk_below (g := gb162) (o := .cells #[.int .i64 a0_0, .int .i64 a0_1, .int .i64 a0_2, .slice A0_3 l0_3.length c0_3, .slice A0_4 l0_4.length c0_4] 31 (0, 0)) (by (with_reducible repeat (first | refine blk_drewN ?_ _ | refine blk_drew ?_ | refine blk_alloc ?_ _)); exact BK162.out) hb); have n4_ := Aside0.mk (blk_below (g := gb172) (o := .cells #[.int .i64 t163, .int .i64 t164, .int .i64 t165, .slice Ao10 t166.length co10, .slice Ao11 t169.length co11] 31 (0, 0)) (by (with_reducible repeat (first | refine blk_drewN ?_ _ | refine blk_drew ?_ | refine blk_alloc ?_ _)); exact BK172.out) hb); have n5_ := Aside0.mk (below_step (by repeat (first | (with_reducible first | exact HB.out | apply below_alloc | apply pw_below_drewN | apply below_drew1 | refine below_set ?_ GE162.out | refine below_set ?_ GE172.out) | exact HB.out)) hb); clear HO_11; clear HO_173003; clear HO_173004; clear BK162; clear BK172; clear HB; have HO_11 := n0_; have HO_173003 := n1_; have HO_173004 := n2_; have BK162 := n3_; have BK172 := n4_; have HB := n5_; clear n0_ n1_ n2_ n3_ n4_ n5_; (try clear hb); (try clear hb2); (try clear hk); (try clear hi); have hcz121_0 : w120.cell? ⟨gb172, 0, none⟩ = some (.int .i64 t163) := (blk_cell BK172.out 0).trans rfl; have hcz121_1 : w120.cell? ⟨gb172, 1, none⟩ = some (.int .i64 t164) := (blk_cell BK172.out 1).trans rfl; have hcz121_2 : w120.cell? ⟨gb172, 2, none⟩ = some (.int .i64 t165) := (blk_cell BK172.out 2).trans rfl; have hcz121_3 : w120.cell? ⟨gb172, 3, none⟩ = some (.slice Ao10 t166.length co10) := (blk_cell BK172.out 3).trans rfl; have hcz121_4 : w120.cell? ⟨gb172, 4, none⟩ = some (.slice Ao11 t169.length co11) := (blk_cell BK172.out 4).trans rfl; have hfz121_0 := blk_frozen BK172.out 0; have hfz121_1 := blk_frozen BK172.out 1; have hfz121_2 := blk_frozen BK172.out 2; have hfz121_3 := blk_frozen BK172.out 3; have hfz121_4 := blk_frozen BK172.out 4) | (go_at_call 44; (with_reducible refine (conf_Behind.calls k3 t163 t164 t165 _ _ t166 _ _ t169 a1 t188 _ ?side1 ?side2 ?side3 ?side4 A89.out).mono ?_); (case side1 => repeat (first | exact (Kd.R_reads' HO_173003.out).2.2 | (with_reducible refine Kd.C_alloc ?_ _) | (with_reducible refine Kd.C_drewN ?_ _) | (with_reducible refine Kd.C_drew ?_))); (case side2 => exact (Kd.R_reads' HO_173003.out).2.1); (case side3 => repeat (first | exact (Kd.R_reads' HO_173004.out).2.2 | (with_reducible refine Kd.C_alloc ?_ _) | (with_reducible refine Kd.C_drewN ?_ _) | (with_reducible refine Kd.C_drew ?_))); (case side4 => exact (Kd.R_reads' HO_173004.out).2.1); rintro e w122 ⟨rfl, hb⟩; have n0_ := Aside0.mk (Kd.R_below (by (with_reducible repeat (first | apply Kd.R_alloc | apply Kd.R_drewN | apply Kd.R_drew)); exact HO_11.out) hb); have n1_ := Aside0.mk (Kd.R_below (by (with_reducible repeat (first | apply Kd.R_alloc | apply Kd.R_drewN | apply Kd.R_drew)); exact HO_173003.out) hb); have n2_ := Aside0.mk (Kd.R_below (by (with_reducible repeat (first | apply Kd.R_alloc | apply Kd.R_drewN | apply Kd.R_drew)); exact HO_173004.out) hb); have n3_ := Aside0.mk (blk_below (g := gb162) (o := .cells #[.int .i64 a0_0, .int .i64 a0_1, .int .i64 a0_2, .slice A0_3 l0_3.length c0_3, .slice A0_4 l0_4.length c0_4] 31 (0, 0)) (by (with_reducible repeat (first | refine blk_drewN ?_ _ | refine blk_drew ?_ | refine blk_alloc ?_ _)); exact BK162.out) hb); have n4_ := Aside0.mk (blk_below (g := gb172) (o := .cells #[.int .i64 t163, .int .i64 t164, .int .i64 t165, .slice Ao10 t166.length co10, .slice Ao11 t169.length co11] 31 (0, 0)) (by (with_reducible repeat (first | refine blk_drewN ?_ _ | refine blk_drew ?_ | refine blk_alloc ?_ _)); exact BK172.out) hb); have n5_ := Aside0.mk (below_step (by repeat (first | (with_reducible first | exact HB.out | apply below_alloc | apply pw_below_drewN | apply below_drew1 | refine below_set ?_ GE162.out | refine below_set ?_ GE172.out) | exact HB.out)) hb); clear HO_11; clear HO_173003; clear HO_173004; clear BK162; clear BK172; clear HB; have HO_11 := n0_; have HO_173003 := n1_; have HO_173004 := n2_; have BK162 := n3_; have BK172 := n4_; have HB := n5_; clear n0_ n1_ n2_ n3_ n4_ n5_; (try clear hb); (try clear hb2); (try clear hk); (try clear hi)) | (go_at_call 45; (with_reducible refine (conf_Node.calls a1 t189 _ A91.out).mono ?_); rintro e w' ⟨rfl, ⟨nd, rfl⟩⟩))
                                  go_ret
                                  exact ⟨by first | rfl | (simp [errW_none, errW_some] <;> rfl) | (simp [*, errW_none, errW_some] <;> rfl), by repeat (first | (with_reducible first | exact HB.out | apply below_alloc | apply pw_below_drewN | apply below_drew1 | refine below_set ?_ GE162.out | refine below_set ?_ GE172.out) | exact HB.out)⟩
                              · rw [if_neg c92] at H
                                have c92b0 : decide (0 ≤ a1) = false := decide_eq_false c92
                                clear c92
                                by_cases c123 : (t189 == false) = true
                                · rw [if_pos c123] at H
                                  have c123b0 : (t189 == false) = true := c123
                                  (try (have c123b1 : decide (t189 = false) = true := by simpa using c123))
                                  (try (have c123b2 : (t189 == false) = true := by simpa using c123))
                                  clear c123
                                  replace H := Option.bind_eq_some_iff.mp H
                                  obtain ⟨t191, A1240, H⟩ := H
                                  replace H : (if a1 = 5 then (some (t191 == true)) else (some (t191 == (a1 == 6)))) = some r := H
                                  have A124 := Aside0.mk A1240
                                  clear A1240
                                  by_cases c125 : a1 = 5
                                  · rw [if_pos c125] at H
                                    have c125b0 : (a1 == 5) = true := beq_iff_eq.mpr c125
                                    have c125b1 : (a1 != 5) = false := bne_eq_false_iff_eq.mpr c125
                                    clear c125
                                    obtain rfl := Option.some.inj H
                                    go_wp2_with (first | ((with_reducible refine gate_callee (f := 27) rfl ?_); refine goesL_ (some 129) rfl rfl Try.func27 (by kernel_rfl) rfl #[] rfl (by (try simp only [List.map_toArray, List.map_cons, List.map_nil]); first | done | rfl | (simp only [List.length_drop, List.length_take]; rfl)) ?_; (with_reducible refine (tarnlaw11_awake.calls k3  true _ A82.out).mono ?_); rintro e w126 ⟨rfl, hb⟩; refine ⟨_, rfl, ?_⟩; have n0_ := Aside0.mk (Kd.R_below (by (with_reducible repeat (first | apply Kd.R_alloc | apply Kd.R_drewN | apply Kd.R_drew)); exact HO_11.out) hb); have n1_ := Aside0.mk (Kd.R_below (by (with_reducible repeat (first | apply Kd.R_alloc | apply Kd.R_drewN | apply Kd.R_drew)); exact HO_173003.out) hb); have n2_ := Aside0.mk (Kd.R_below (by (with_reducible repeat (first | apply Kd.R_alloc | apply Kd.R_drewN | apply Kd.R_drew)); exact HO_173004.out) hb); have n3_ := Aside0.mk (blk_below (g := gb162) (o := .cells #[.int .i64 a0_0, .int .i64 a0_1, .int .i64 a0_2, .slice A0_3 l0_3.length c0_3, .slice A0_4 l0_4.length c0_4] 31 (0, 0)) (by (with_reducible repeat (first | refine blk_drewN ?_ _ | refine blk_drew ?_ | refine blk_alloc ?_ _)); exact BK162.out) hb); have n4_ := Aside0.mk (blk_below (g := gb172) (o := .cells #[.int .i64 t163, .int .i64 t164, .int .i64 t165, .slice Ao10 t166.length co10, .slice Ao11 t169.length co11] 31 (0, 0)) (by (with_reducible repeat (first | refine blk_drewN ?_ _ | refine blk_drew ?_ | refine blk_alloc ?_ _)); exact BK172.out) hb); have n5_ := Aside0.mk (below_step (by repeat (first | (with_reducible first | exact HB.out | apply below_alloc | apply pw_below_drewN | apply below_drew1 | refine below_set ?_ GE162.out | refine below_set ?_ GE172.out) | exact HB.out)) hb); clear HO_11; clear HO_173003; clear HO_173004; clear BK162; clear BK172; clear HB; have HO_11 := n0_; have HO_173003 := n1_; have HO_173004 := n2_; have BK162 := n3_; have BK172 := n4_; have HB := n5_; clear n0_ n1_ n2_ n3_ n4_ n5_; (try clear hb); (try clear hb2); (try clear hk); (try clear hi); obtain ⟨Ao127, co127, eo127⟩ := Kd.R_slice HO_11.out; subst eo127; have hnb128 := NB172_162.out; have hnc128 := NB162_172.out; have hcz129_0 : w126.cell? ⟨gb172, 0, none⟩ = some (.int .i64 t163) := (blk_cell BK172.out 0).trans rfl; have hcz129_1 : w126.cell? ⟨gb172, 1, none⟩ = some (.int .i64 t164) := (blk_cell BK172.out 1).trans rfl; have hcz129_2 : w126.cell? ⟨gb172, 2, none⟩ = some (.int .i64 t165) := (blk_cell BK172.out 2).trans rfl; have hcz129_3 : w126.cell? ⟨gb172, 3, none⟩ = some (.slice Ao10 t166.length co10) := (blk_cell BK172.out 3).trans rfl; have hcz129_4 : w126.cell? ⟨gb172, 4, none⟩ = some (.slice Ao11 t169.length co11) := (blk_cell BK172.out 4).trans rfl; have hfz129_0 := blk_frozen BK172.out 0; have hfz129_1 := blk_frozen BK172.out 1; have hfz129_2 := blk_frozen BK172.out 2; have hfz129_3 := blk_frozen BK172.out 3; have hfz129_4 := blk_frozen BK172.out 4) | (go_at_call 42; (with_reducible refine (conf_Mirrors.calls k3 t163 t164 t165 _ _ t166 _ _ t169 a1 t186 _ ?side1 ?side2 ?side3 ?side4 A85.out).mono ?_); (case side1 => repeat (first | exact (Kd.R_reads' HO_173003.out).2.2 | (with_reducible refine Kd.C_alloc ?_ _) | (with_reducible refine Kd.C_drewN ?_ _) | (with_reducible refine Kd.C_drew ?_))); (case side2 => exact (Kd.R_reads' HO_173003.out).2.1); (case side3 => repeat (first | exact (Kd.R_reads' HO_173004.out).2.2 | (with_reducible refine Kd.C_alloc ?_ _) | (with_reducible refine Kd.C_drewN ?_ _) | (with_reducible refine Kd.C_drew ?_))); (case side4 => exact (Kd.R_reads' HO_173004.out).2.1); rintro e w130 ⟨rfl, hb⟩; have n0_ := Aside0.mk (Kd.R_below (by (with_reducible repeat (first | apply Kd.R_alloc | apply Kd.R_drewN | apply Kd.R_drew)); exact HO_11.out) hb); have n1_ := Aside0.mk (Kd.R_below (by (with_reducible repeat (first | apply Kd.R_alloc | apply Kd.R_drewN | apply Kd.R_drew)); exact HO_173003.out) hb); have n2_ := Aside0.mk (Kd.R_below (by (with_reducible repeat (first | apply Kd.R_alloc | apply Kd.R_drewN | apply Kd.R_drew)); exact HO_173004.out) hb); have n3_ := Aside0.mk (blk_below (g := gb162) (o := .cells #[.int .i64 a0_0, .int .i64 a0_1, .int .i64 a0_2, .slice A0_3 l0_3.length c0_3, .slice A0_4 l0_4.length c0_4] 31 (0, 0)) (by (with_reducible repeat (first | refine blk_drewN ?_ _ | refine blk_drew ?_ | refine blk_alloc ?_ _)); exact BK162.out) hb); have n4_ := Aside0.mk (blk_below (g := gb172) (o := .cells #[.int .i64 t163, .int .i64 t164, .int .i64 t165, .slice Ao10 t166.length co10, .slice Ao11 t169.length co11] 31 (0, 0)) (by (with_reducible repeat (first | refine blk_drewN ?_ _ | refine blk_drew ?_ | refine blk_alloc ?_ _)); exact BK172.out) hb); have n5_ := Aside0.mk (below_step (by repeat (first | (with_reducible first | exact HB.out | apply below_alloc | apply pw_below_drewN | apply below_drew1 | refine below_set ?_ GE162.out | refine below_set ?_ GE172.out) | exact HB.out)) hb); clear HO_11; clear HO_173003; clear HO_173004; clear BK162; clear BK172; clear HB; have HO_11 := n0_; have HO_173003 := n1_; have HO_173004 := n2_; have BK162 := n3_; have BK172 := n4_; have HB := n5_; clear n0_ n1_ n2_ n3_ n4_ n5_; (try clear hb); (try clear hb2); (try clear hk); (try clear hi); have hcz131_0 : w130.cell? ⟨gb172, 0, none⟩ = some (.int .i64 t163) := (blk_cell BK172.out 0).trans rfl; have hcz131_1 : w130.cell? ⟨gb172, 1, none⟩ = some (.int .i64 t164) := (blk_cell BK172.out 1).trans rfl; have hcz131_2 : w130.cell? ⟨gb172, 2, none⟩ = some (.int .i64 t165) := (blk_cell BK172.out 2).trans rfl; have hcz131_3 : w130.cell? ⟨gb172, 3, none⟩ = some (.slice Ao10 t166.length co10) := (blk_cell BK172.out 3).trans rfl; have hcz131_4 : w130.cell? ⟨gb172, 4, none⟩ = some (.slice Ao11 t169.length co11) := (blk_cell BK172.out 4).trans rfl; have hfz131_0 := blk_frozen BK172.out 0; have hfz131_1 := blk_frozen BK172.out 1; have hfz131_2 := blk_frozen BK172.out 2; have hfz131_3 := blk_frozen BK172.out 3; have hfz131_4 := blk_frozen BK172.out 4) | (go_at_call 43; (with_reducible refine (conf_Chains.calls k3 t163 t164 t165 _ _ t166 _ _ t169 a1 t187 _ ?side1 ?side2 ?side3 ?side4 A87.out).mono ?_); (case side1 => repeat (first | exact (Kd.R_reads' HO_173003.out).2.2 | (with_reducible refine Kd.C_alloc ?_ _) | (with_reducible refine Kd.C_drewN ?_ _) | (with_reducible refine Kd.C_drew ?_))); (case side2 => exact (Kd.R_reads' HO_173003.out).2.1); (case side3 => repeat (first | exact (Kd.R_reads' HO_173004.out).2.2 | (with_reducible refine Kd.C_alloc ?_ _) | (with_reducible refine Kd.C_drewN ?_ _) | (with_reducible refine Kd.C_drew ?_))); (case side4 => exact (Kd.R_reads' HO_173004.out).2.1); rintro e w132 ⟨rfl, hb⟩; have n0_ := Aside0.mk (Kd.R_below (by (with_reducible repeat (first | apply Kd.R_alloc | apply Kd.R_drewN | apply Kd.R_drew)); exact HO_11.out) hb); have n1_ := Aside0.mk (Kd.R_below (by (with_reducible repeat (first | apply Kd.R_alloc | apply Kd.R_drewN | apply Kd.R_drew)); exact HO_173003.out) hb); have n2_ := Aside0.mk (Kd.R_below (by (with_reducible repeat (first | apply Kd.R_alloc | apply Kd.R_drewN | apply Kd.R_drew)); exact HO_173004.out) hb); have n3_ := Aside0.mk (blk_below (g := gb162) (o := .cells #[.int .i64 a0_0, .int .i64 a0_1, .int .i64 a0_2, .slice A0_3 l0_3.length c0_3, .slice A0_4 l0_4.length c0_4] 31 (0, 0)) (by (with_reducible repeat (first | refine blk_drewN ?_ _ | refine blk_drew ?_ | refine blk_alloc ?_ _)); exact BK162.out) hb); have n4_ := Aside0.mk (blk_below (g := gb172) (o := .cells #[.int .i64 t163, .int .i64 t164, .int .i64 t165, .slice Ao10 t166.length co10, .slice Ao11 t169.length co11] 31 (0, 0)) (by (with_reducible repeat (first | refine blk_drewN ?_ _ | refine blk_drew ?_ | refine blk_alloc ?_ _)); exact BK172.out) hb); have n5_ := Aside0.mk (below_step (by repeat (first | (with_reducible first | exact HB.out | apply below_alloc | apply pw_below_drewN | apply below_drew1 | refine below_set ?_ GE162.out | refine below_set ?_ GE172.out) | exact HB.out)) hb); clear HO_11; clear HO_173003; clear HO_173004; clear BK162; clear BK172; clear HB; have HO_11 := n0_; have HO_173003 := n1_; have HO_173004 := n2_; have BK162 := n3_; have BK172 := n4_; have HB := n5_; clear n0_ n1_ n2_ n3_ n4_ n5_; (try clear hb); (try clear hb2); (try clear hk); (try clear hi); have hcz133_0 : w132.cell? ⟨gb172, 0, none⟩ = some (.int .i64 t163) := (blk_cell BK172.out 0).trans rfl; have hcz133_1 : w132.cell? ⟨gb172, 1, none⟩ = some (.int .i64 t164) := (blk_cell BK172.out 1).trans rfl; have hcz133_2 : w132.cell? ⟨gb172, 2, none⟩ = some (.int .i64 t165) := (blk_cell BK172.out 2).trans rfl; have hcz133_3 : w132.cell? ⟨gb172, 3, none⟩ = some (.slice Ao10 t166.length co10) := (blk_cell BK172.out 3).trans rfl; have hcz133_4 : w132.cell? ⟨gb172, 4, none⟩ = some (.slice Ao11 t169.length co11) := (blk_cell BK172.out 4).trans rfl; have hfz133_0 := blk_frozen BK172.out 0; have hfz133_1 := blk_frozen BK172.out 1; have hfz133_2 := blk_frozen BK172.out 2; have hfz133_3 := blk_frozen BK172.out 3; have hfz133_4 := blk_frozen BK172.out 4) | (go_at_call 44; (with_reducible refine (conf_Behind.calls k3 t163 t164 t165 _ _ t166 _ _ t169 a1 t188 _ ?side1 ?side2 ?side3 ?side4 A89.out).mono ?_); (case side1 => repeat (first | exact (Kd.R_reads' HO_173003.out).2.2 | (with_reducible refine Kd.C_alloc ?_ _) | (with_reducible refine Kd.C_drewN ?_ _) | (with_reducible refine Kd.C_drew ?_))); (case side2 => exact (Kd.R_reads' HO_173003.out).2.1); (case side3 => repeat (first | exact (Kd.R_reads' HO_173004.out).2.2 | (with_reducible refine Kd.C_alloc ?_ _) | (with_reducible refine Kd.C_drewN ?_ _) | (with_reducible refine Kd.C_drew ?_))); (case side4 => exact (Kd.R_reads' HO_173004.out).2.1); rintro e w134 ⟨rfl, hb⟩; have n0_ := Aside0.mk (Kd.R_below (by (with_reducible repeat (first | apply Kd.R_alloc | apply Kd.R_drewN | apply Kd.R_drew)); exact HO_11.out) hb); have n1_ := Aside0.mk (Kd.R_below (by (with_reducible repeat (first | apply Kd.R_alloc | apply Kd.R_drewN | apply Kd.R_drew)); exact HO_173003.out) hb); have n2_ := Aside0.mk (Kd.R_below (by (with_reducible repeat (first | apply Kd.R_alloc | apply Kd.R_drewN | apply Kd.R_drew)); exact HO_173004.out) hb); have n3_ := Aside0.mk (blk_below (g := gb162) (o := .cells #[.int .i64 a0_0, .int .i64 a0_1, .int .i64 a0_2, .slice A0_3 l0_3.length c0_3, .slice A0_4 l0_4.length c0_4] 31 (0, 0)) (by (with_reducible repeat (first | refine blk_drewN ?_ _ | refine blk_drew ?_ | refine blk_alloc ?_ _)); exact BK162.out) hb); have n4_ := Aside0.mk (blk_below (g := gb172) (o := .cells #[.int .i64 t163, .int .i64 t164, .int .i64 t165, .slice Ao10 t166.length co10, .slice Ao11 t169.length co11] 31 (0, 0)) (by (with_reducible repeat (first | refine blk_drewN ?_ _ | refine blk_drew ?_ | refine blk_alloc ?_ _)); exact BK172.out) hb); have n5_ := Aside0.mk (below_step (by repeat (first | (with_reducible first | exact HB.out | apply below_alloc | apply pw_below_drewN | apply below_drew1 | refine below_set ?_ GE162.out | refine below_set ?_ GE172.out) | exact HB.out)) hb); clear HO_11; clear HO_173003; clear HO_173004; clear BK162; clear BK172; clear HB; have HO_11 := n0_; have HO_173003 := n1_; have HO_173004 := n2_; have BK162 := n3_; have BK172 := n4_; have HB := n5_; clear n0_ n1_ n2_ n3_ n4_ n5_; (try clear hb); (try clear hb2); (try clear hk); (try clear hi)) | (go_at_call 45; (with_reducible refine (conf_Node.calls a1 t189 _ A91.out).mono ?_); rintro e w' ⟨rfl, ⟨nd, rfl⟩⟩) | (go_at_call 46; (with_reducible refine (conf_Gate.calls a1 t191 _ A124.out).mono ?_); rintro e w' ⟨rfl, ⟨nd, rfl⟩⟩))
                                    go_ret
                                    exact ⟨by first | rfl | (simp [errW_none, errW_some] <;> rfl) | (simp [*, errW_none, errW_some] <;> rfl), by repeat (first | (with_reducible first | exact HB.out | apply below_alloc | apply pw_below_drewN | apply below_drew1 | refine below_set ?_ GE162.out | refine below_set ?_ GE172.out) | exact HB.out)⟩
                                  · rw [if_neg c125] at H
                                    have c125b0 : (a1 == 5) = false := beq_eq_false_iff_ne.mpr c125
                                    have c125b1 : (a1 != 5) = true := bne_iff_ne.mpr c125
                                    obtain rfl := Option.some.inj H
                                    go_wp2_with (first | ((with_reducible refine gate_callee (f := 27) rfl ?_); refine goesL_ (some 129) rfl rfl Try.func27 (by kernel_rfl) rfl #[] rfl (by (try simp only [List.map_toArray, List.map_cons, List.map_nil]); first | done | rfl | (simp only [List.length_drop, List.length_take]; rfl)) ?_; (with_reducible refine (tarnlaw11_awake.calls k3  true _ A82.out).mono ?_); rintro e w135 ⟨rfl, hb⟩; refine ⟨_, rfl, ?_⟩; have n0_ := Aside0.mk (Kd.R_below (by (with_reducible repeat (first | apply Kd.R_alloc | apply Kd.R_drewN | apply Kd.R_drew)); exact HO_11.out) hb); have n1_ := Aside0.mk (Kd.R_below (by (with_reducible repeat (first | apply Kd.R_alloc | apply Kd.R_drewN | apply Kd.R_drew)); exact HO_173003.out) hb); have n2_ := Aside0.mk (Kd.R_below (by (with_reducible repeat (first | apply Kd.R_alloc | apply Kd.R_drewN | apply Kd.R_drew)); exact HO_173004.out) hb); have n3_ := Aside0.mk (blk_below (g := gb162) (o := .cells #[.int .i64 a0_0, .int .i64 a0_1, .int .i64 a0_2, .slice A0_3 l0_3.length c0_3, .slice A0_4 l0_4.length c0_4] 31 (0, 0)) (by (with_reducible repeat (first | refine blk_drewN ?_ _ | refine blk_drew ?_ | refine blk_alloc ?_ _)); exact BK162.out) hb); have n4_ := Aside0.mk (blk_below (g := gb172) (o := .cells #[.int .i64 t163, .int .i64 t164, .int .i64 t165, .slice Ao10 t166.length co10, .slice Ao11 t169.length co11] 31 (0, 0)) (by (with_reducible repeat (first | refine blk_drewN ?_ _ | refine blk_drew ?_ | refine blk_alloc ?_ _)); exact BK172.out) hb); have n5_ := Aside0.mk (below_step (by repeat (first | (with_reducible first | exact HB.out | apply below_alloc | apply pw_below_drewN | apply below_drew1 | refine below_set ?_ GE162.out | refine below_set ?_ GE172.out) | exact HB.out)) hb); clear HO_11; clear HO_173003; clear HO_173004; clear BK162; clear BK172; clear HB; have HO_11 := n0_; have HO_173003 := n1_; have HO_173004 := n2_; have BK162 := n3_; have BK172 := n4_; have HB := n5_; clear n0_ n1_ n2_ n3_ n4_ n5_; (try clear hb); (try clear hb2); (try clear hk); (try clear hi); obtain ⟨Ao136, co136, eo136⟩ := Kd.R_slice HO_11.out; subst eo136; have hnb137 := NB172_162.out; have hnc137 := NB162_172.out; have hcz138_0 : w135.cell? ⟨gb172, 0, none⟩ = some (.int .i64 t163) := (blk_cell BK172.out 0).trans rfl; have hcz138_1 : w135.cell? ⟨gb172, 1, none⟩ = some (.int .i64 t164) := (blk_cell BK172.out 1).trans rfl; have hcz138_2 : w135.cell? ⟨gb172, 2, none⟩ = some (.int .i64 t165) := (blk_cell BK172.out 2).trans rfl; have hcz138_3 : w135.cell? ⟨gb172, 3, none⟩ = some (.slice Ao10 t166.length co10) := (blk_cell BK172.out 3).trans rfl; have hcz138_4 : w135.cell? ⟨gb172, 4, none⟩ = some (.slice Ao11 t169.length co11) := (blk_cell BK172.out 4).trans rfl; have hfz138_0 := blk_frozen BK172.out 0; have hfz138_1 := blk_frozen BK172.out 1; have hfz138_2 := blk_frozen BK172.out 2; have hfz138_3 := blk_frozen BK172.out 3; have hfz138_4 := blk_frozen BK172.out 4) | (go_at_call 42; (with_reducible refine (conf_Mirrors.calls k3 t163 t164 t165 _ _ t166 _ _ t169 a1 t186 _ ?side1 ?side2 ?side3 ?side4 A85.out).mono ?_); (case side1 => repeat (first | exact (Kd.R_reads' HO_173003.out).2.2 | (with_reducible refine Kd.C_alloc ?_ _) | (with_reducible refine Kd.C_drewN ?_ _) | (with_reducible refine Kd.C_drew ?_))); (case side2 => exact (Kd.R_reads' HO_173003.out).2.1); (case side3 => repeat (first | exact (Kd.R_reads' HO_173004.out).2.2 | (with_reducible refine Kd.C_alloc ?_ _) | (with_reducible refine Kd.C_drewN ?_ _) | (with_reducible refine Kd.C_drew ?_))); (case side4 => exact (Kd.R_reads' HO_173004.out).2.1); rintro e w139 ⟨rfl, hb⟩; have n0_ := Aside0.mk (Kd.R_below (by (with_reducible repeat (first | apply Kd.R_alloc | apply Kd.R_drewN | apply Kd.R_drew)); exact HO_11.out) hb); have n1_ := Aside0.mk (Kd.R_below (by (with_reducible repeat (first | apply Kd.R_alloc | apply Kd.R_drewN | apply Kd.R_drew)); exact HO_173003.out) hb); have n2_ := Aside0.mk (Kd.R_below (by (with_reducible repeat (first | apply Kd.R_alloc | apply Kd.R_drewN | apply Kd.R_drew)); exact HO_173004.out) hb); have n3_ := Aside0.mk (blk_below (g := gb162) (o := .cells #[.int .i64 a0_0, .int .i64 a0_1, .int .i64 a0_2, .slice A0_3 l0_3.length c0_3, .slice A0_4 l0_4.length c0_4] 31 (0, 0)) (by (with_reducible repeat (first | refine blk_drewN ?_ _ | refine blk_drew ?_ | refine blk_alloc ?_ _)); exact BK162.out) hb); have n4_ := Aside0.mk (blk_below (g := gb172) (o := .cells #[.int .i64 t163, .int .i64 t164, .int .i64 t165, .slice Ao10 t166.length co10, .slice Ao11 t169.length co11] 31 (0, 0)) (by (with_reducible repeat (first | refine blk_drewN ?_ _ | refine blk_drew ?_ | refine blk_alloc ?_ _)); exact BK172.out) hb); have n5_ := Aside0.mk (below_step (by repeat (first | (with_reducible first | exact HB.out | apply below_alloc | apply pw_below_drewN | apply below_drew1 | refine below_set ?_ GE162.out | refine below_set ?_ GE172.out) | exact HB.out)) hb); clear HO_11; clear HO_173003; clear HO_173004; clear BK162; clear BK172; clear HB; have HO_11 := n0_; have HO_173003 := n1_; have HO_173004 := n2_; have BK162 := n3_; have BK172 := n4_; have HB := n5_; clear n0_ n1_ n2_ n3_ n4_ n5_; (try clear hb); (try clear hb2); (try clear hk); (try clear hi); have hcz140_0 : w139.cell? ⟨gb172, 0, none⟩ = some (.int .i64 t163) := (blk_cell BK172.out 0).trans rfl; have hcz140_1 : w139.cell? ⟨gb172, 1, none⟩ = some (.int .i64 t164) := (blk_cell BK172.out 1).trans rfl; have hcz140_2 : w139.cell? ⟨gb172, 2, none⟩ = some (.int .i64 t165) := (blk_cell BK172.out 2).trans rfl; have hcz140_3 : w139.cell? ⟨gb172, 3, none⟩ = some (.slice Ao10 t166.length co10) := (blk_cell BK172.out 3).trans rfl; have hcz140_4 : w139.cell? ⟨gb172, 4, none⟩ = some (.slice Ao11 t169.length co11) := (blk_cell BK172.out 4).trans rfl; have hfz140_0 := blk_frozen BK172.out 0; have hfz140_1 := blk_frozen BK172.out 1; have hfz140_2 := blk_frozen BK172.out 2; have hfz140_3 := blk_frozen BK172.out 3; have hfz140_4 := blk_frozen BK172.out 4) | (go_at_call 43; (with_reducible refine (conf_Chains.calls k3 t163 t164 t165 _ _ t166 _ _ t169 a1 t187 _ ?side1 ?side2 ?side3 ?side4 A87.out).mono ?_); (case side1 => repeat (first | exact (Kd.R_reads' HO_173003.out).2.2 | (with_reducible refine Kd.C_alloc ?_ _) | (with_reducible refine Kd.C_drewN ?_ _) | (with_reducible refine Kd.C_drew ?_))); (case side2 => exact (Kd.R_reads' HO_173003.out).2.1); (case side3 => repeat (first | exact (Kd.R_reads' HO_173004.out).2.2 | (with_reducible refine Kd.C_alloc ?_ _) | (with_reducible refine Kd.C_drewN ?_ _) | (with_reducible refine Kd.C_drew ?_))); (case side4 => exact (Kd.R_reads' HO_173004.out).2.1); rintro e w141 ⟨rfl, hb⟩; have n0_ := Aside0.mk (Kd.R_below (by (with_reducible repeat (first | apply Kd.R_alloc | apply Kd.R_drewN | apply Kd.R_drew)); exact HO_11.out) hb); have n1_ := Aside0.mk (Kd.R_below (by (with_reducible repeat (first | apply Kd.R_alloc | apply Kd.R_drewN | apply Kd.R_drew)); exact HO_173003.out) hb); have n2_ := Aside0.mk (Kd.R_below (by (with_reducible repeat (first | apply Kd.R_alloc | apply Kd.R_drewN | apply Kd.R_drew)); exact HO_173004.out) hb); have n3_ := Aside0.mk (blk_below (g := gb162) (o := .cells #[.int .i64 a0_0, .int .i64 a0_1, .int .i64 a0_2, .slice A0_3 l0_3.length c0_3, .slice A0_4 l0_4.length c0_4] 31 (0, 0)) (by (with_reducible repeat (first | refine blk_drewN ?_ _ | refine blk_drew ?_ | refine blk_alloc ?_ _)); exact BK162.out) hb); have n4_ := Aside0.mk (blk_below (g := gb172) (o := .cells #[.int .i64 t163, .int .i64 t164, .int .i64 t165, .slice Ao10 t166.length co10, .slice Ao11 t169.length co11] 31 (0, 0)) (by (with_reducible repeat (first | refine blk_drewN ?_ _ | refine blk_drew ?_ | refine blk_alloc ?_ _)); exact BK172.out) hb); have n5_ := Aside0.mk (below_step (by repeat (first | (with_reducible first | exact HB.out | apply below_alloc | apply pw_below_drewN | apply below_drew1 | refine below_set ?_ GE162.out | refine below_set ?_ GE172.out) | exact HB.out)) hb); clear HO_11; clear HO_173003; clear HO_173004; clear BK162; clear BK172; clear HB; have HO_11 := n0_; have HO_173003 := n1_; have HO_173004 := n2_; have BK162 := n3_; have BK172 := n4_; have HB := n5_; clear n0_ n1_ n2_ n3_ n4_ n5_; (try clear hb); (try clear hb2); (try clear hk); (try clear hi); have hcz142_0 : w141.cell? ⟨gb172, 0, none⟩ = some (.int .i64 t163) := (blk_cell BK172.out 0).trans rfl; have hcz142_1 : w141.cell? ⟨gb172, 1, none⟩ = some (.int .i64 t164) := (blk_cell BK172.out 1).trans rfl; have hcz142_2 : w141.cell? ⟨gb172, 2, none⟩ = some (.int .i64 t165) := (blk_cell BK172.out 2).trans rfl; have hcz142_3 : w141.cell? ⟨gb172, 3, none⟩ = some (.slice Ao10 t166.length co10) := (blk_cell BK172.out 3).trans rfl; have hcz142_4 : w141.cell? ⟨gb172, 4, none⟩ = some (.slice Ao11 t169.length co11) := (blk_cell BK172.out 4).trans rfl; have hfz142_0 := blk_frozen BK172.out 0; have hfz142_1 := blk_frozen BK172.out 1; have hfz142_2 := blk_frozen BK172.out 2; have hfz142_3 := blk_frozen BK172.out 3; have hfz142_4 := blk_frozen BK172.out 4) | (go_at_call 44; (with_reducible refine (conf_Behind.calls k3 t163 t164 t165 _ _ t166 _ _ t169 a1 t188 _ ?side1 ?side2 ?side3 ?side4 A89.out).mono ?_); (case side1 => repeat (first | exact (Kd.R_reads' HO_173003.out).2.2 | (with_reducible refine Kd.C_alloc ?_ _) | (with_reducible refine Kd.C_drewN ?_ _) | (with_reducible refine Kd.C_drew ?_))); (case side2 => exact (Kd.R_reads' HO_173003.out).2.1); (case side3 => repeat (first | exact (Kd.R_reads' HO_173004.out).2.2 | (with_reducible refine Kd.C_alloc ?_ _) | (with_reducible refine Kd.C_drewN ?_ _) | (with_reducible refine Kd.C_drew ?_))); (case side4 => exact (Kd.R_reads' HO_173004.out).2.1); rintro e w143 ⟨rfl, hb⟩; have n0_ := Aside0.mk (Kd.R_below (by (with_reducible repeat (first | apply Kd.R_alloc | apply Kd.R_drewN | apply Kd.R_drew)); exact HO_11.out) hb); have n1_ := Aside0.mk (Kd.R_below (by (with_reducible repeat (first | apply Kd.R_alloc | apply Kd.R_drewN | apply Kd.R_drew)); exact HO_173003.out) hb); have n2_ := Aside0.mk (Kd.R_below (by (with_reducible repeat (first | apply Kd.R_alloc | apply Kd.R_drewN | apply Kd.R_drew)); exact HO_173004.out) hb); have n3_ := Aside0.mk (blk_below (g := gb162) (o := .cells #[.int .i64 a0_0, .int .i64 a0_1, .int .i64 a0_2, .slice A0_3 l0_3.length c0_3, .slice A0_4 l0_4.length c0_4] 31 (0, 0)) (by (with_reducible repeat (first | refine blk_drewN ?_ _ | refine blk_drew ?_ | refine blk_alloc ?_ _)); exact BK162.out) hb); have n4_ := Aside0.mk (blk_below (g := gb172) (o := .cells #[.int .i64 t163, .int .i64 t164, .int .i64 t165, .slice Ao10 t166.length co10, .slice Ao11 t169.length co11] 31 (0, 0)) (by (with_reducible repeat (first | refine blk_drewN ?_ _ | refine blk_drew ?_ | refine blk_alloc ?_ _)); exact BK172.out) hb); have n5_ := Aside0.mk (below_step (by repeat (first | (with_reducible first | exact HB.out | apply below_alloc | apply pw_below_drewN | apply below_drew1 | refine below_set ?_ GE162.out | refine below_set ?_ GE172.out) | exact HB.out)) hb); clear HO_11; clear HO_173003; clear HO_173004; clear BK162; clear BK172; clear HB; have HO_11 := n0_; have HO_173003 := n1_; have HO_173004 := n2_; have BK162 := n3_; have BK172 := n4_; have HB := n5_; clear n0_ n1_ n2_ n3_ n4_ n5_; (try clear hb); (try clear hb2); (try clear hk); (try clear hi)) | (go_at_call 45; (with_reducible refine (conf_Node.calls a1 t189 _ A91.out).mono ?_); rintro e w' ⟨rfl, ⟨nd, rfl⟩⟩) | (go_at_call 46; (with_reducible refine (conf_Gate.calls a1 t191 _ A124.out).mono ?_); rintro e w' ⟨rfl, ⟨nd, rfl⟩⟩))
                                    go_ret
                                    exact ⟨by first | rfl | (simp [errW_none, errW_some] <;> rfl) | (simp [*, errW_none, errW_some] <;> rfl), by repeat (first | (with_reducible first | exact HB.out | apply below_alloc | apply pw_below_drewN | apply below_drew1 | refine below_set ?_ GE162.out | refine below_set ?_ GE172.out) | exact HB.out)⟩
                                · rw [if_neg c123] at H
                                  have c123b0 : (t189 == false) = false := by simpa using c123
                                  (try (have c123b1 : decide (t189 = false) = false := by simpa using c123))
                                  (try (have c123b2 : (t189 == false) = false := by simpa using c123))
                                  (try (have c123b3 : ¬ (t189 = false) := by simpa using c123))
                                  clear c123
                                  obtain rfl := Option.some.inj H
                                  go_wp2_with (first | ((with_reducible refine gate_callee (f := 27) rfl ?_); refine goesL_ (some 129) rfl rfl Try.func27 (by kernel_rfl) rfl #[] rfl (by (try simp only [List.map_toArray, List.map_cons, List.map_nil]); first | done | rfl | (simp only [List.length_drop, List.length_take]; rfl)) ?_; (with_reducible refine (tarnlaw11_awake.calls k3  true _ A82.out).mono ?_); rintro e w144 ⟨rfl, hb⟩; refine ⟨_, rfl, ?_⟩; have n0_ := Aside0.mk (Kd.R_below (by (with_reducible repeat (first | apply Kd.R_alloc | apply Kd.R_drewN | apply Kd.R_drew)); exact HO_11.out) hb); have n1_ := Aside0.mk (Kd.R_below (by (with_reducible repeat (first | apply Kd.R_alloc | apply Kd.R_drewN | apply Kd.R_drew)); exact HO_173003.out) hb); have n2_ := Aside0.mk (Kd.R_below (by (with_reducible repeat (first | apply Kd.R_alloc | apply Kd.R_drewN | apply Kd.R_drew)); exact HO_173004.out) hb); have n3_ := Aside0.mk (blk_below (g := gb162) (o := .cells #[.int .i64 a0_0, .int .i64 a0_1, .int .i64 a0_2, .slice A0_3 l0_3.length c0_3, .slice A0_4 l0_4.length c0_4] 31 (0, 0)) (by (with_reducible repeat (first | refine blk_drewN ?_ _ | refine blk_drew ?_ | refine blk_alloc ?_ _)); exact BK162.out) hb); have n4_ := Aside0.mk (blk_below (g := gb172) (o := .cells #[.int .i64 t163, .int .i64 t164, .int .i64 t165, .slice Ao10 t166.length co10, .slice Ao11 t169.length co11] 31 (0, 0)) (by (with_reducible repeat (first | refine blk_drewN ?_ _ | refine blk_drew ?_ | refine blk_alloc ?_ _)); exact BK172.out) hb); have n5_ := Aside0.mk (below_step (by repeat (first | (with_reducible first | exact HB.out | apply below_alloc | apply pw_below_drewN | apply below_drew1 | refine below_set ?_ GE162.out | refine below_set ?_ GE172.out) | exact HB.out)) hb); clear HO_11; clear HO_173003; clear HO_173004; clear BK162; clear BK172; clear HB; have HO_11 := n0_; have HO_173003 := n1_; have HO_173004 := n2_; have BK162 := n3_; have BK172 := n4_; have HB := n5_; clear n0_ n1_ n2_ n3_ n4_ n5_; (try clear hb); (try clear hb2); (try clear hk); (try clear hi); obtain ⟨Ao145, co145, eo145⟩ := Kd.R_slice HO_11.out; subst eo145; have hnb146 := NB172_162.out; have hnc146 := NB162_172.out; have hcz147_0 : w144.cell? ⟨gb172, 0, none⟩ = some (.int .i64 t163) := (blk_cell BK172.out 0).trans rfl; have hcz147_1 : w144.cell? ⟨gb172, 1, none⟩ = some (.int .i64 t164) := (blk_cell BK172.out 1).trans rfl; have hcz147_2 : w144.cell? ⟨gb172, 2, none⟩ = some (.int .i64 t165) := (blk_cell BK172.out 2).trans rfl; have hcz147_3 : w144.cell? ⟨gb172, 3, none⟩ = some (.slice Ao10 t166.length co10) := (blk_cell BK172.out 3).trans rfl; have hcz147_4 : w144.cell? ⟨gb172, 4, none⟩ = some (.slice Ao11 t169.length co11) := (blk_cell BK172.out 4).trans rfl; have hfz147_0 := blk_frozen BK172.out 0; have hfz147_1 := blk_frozen BK172.out 1; have hfz147_2 := blk_frozen BK172.out 2; have hfz147_3 := blk_frozen BK172.out 3; have hfz147_4 := blk_frozen BK172.out 4) | (go_at_call 42; (with_reducible refine (conf_Mirrors.calls k3 t163 t164 t165 _ _ t166 _ _ t169 a1 t186 _ ?side1 ?side2 ?side3 ?side4 A85.out).mono ?_); (case side1 => repeat (first | exact (Kd.R_reads' HO_173003.out).2.2 | (with_reducible refine Kd.C_alloc ?_ _) | (with_reducible refine Kd.C_drewN ?_ _) | (with_reducible refine Kd.C_drew ?_))); (case side2 => exact (Kd.R_reads' HO_173003.out).2.1); (case side3 => repeat (first | exact (Kd.R_reads' HO_173004.out).2.2 | (with_reducible refine Kd.C_alloc ?_ _) | (with_reducible refine Kd.C_drewN ?_ _) | (with_reducible refine Kd.C_drew ?_))); (case side4 => exact (Kd.R_reads' HO_173004.out).2.1); rintro e w148 ⟨rfl, hb⟩; have n0_ := Aside0.mk (Kd.R_below (by (with_reducible repeat (first | apply Kd.R_alloc | apply Kd.R_drewN | apply Kd.R_drew)); exact HO_11.out) hb); have n1_ := Aside0.mk (Kd.R_below (by (with_reducible repeat (first | apply Kd.R_alloc | apply Kd.R_drewN | apply Kd.R_drew)); exact HO_173003.out) hb); have n2_ := Aside0.mk (Kd.R_below (by (with_reducible repeat (first | apply Kd.R_alloc | apply Kd.R_drewN | apply Kd.R_drew)); exact HO_173004.out) hb); have n3_ := Aside0.mk (blk_below (g := gb162) (o := .cells #[.int .i64 a0_0, .int .i64 a0_1, .int .i64 a0_2, .slice A0_3 l0_3.length c0_3, .slice A0_4 l0_4.length c0_4] 31 (0, 0)) (by (with_reducible repeat (first | refine blk_drewN ?_ _ | refine blk_drew ?_ | refine blk_alloc ?_ _)); exact BK162.out) hb); have n4_ := Aside0.mk (blk_below (g := gb172) (o := .cells #[.int .i64 t163, .int .i64 t164, .int .i64 t165, .slice Ao10 t166.length co10, .slice Ao11 t169.length co11] 31 (0, 0)) (by (with_reducible repeat (first | refine blk_drewN ?_ _ | refine blk_drew ?_ | refine blk_alloc ?_ _)); exact BK172.out) hb); have n5_ := Aside0.mk (below_step (by repeat (first | (with_reducible first | exact HB.out | apply below_alloc | apply pw_below_drewN | apply below_drew1 | refine below_set ?_ GE162.out | refine below_set ?_ GE172.out) | exact HB.out)) hb); clear HO_11; clear HO_173003; clear HO_173004; clear BK162; clear BK172; clear HB; have HO_11 := n0_; have HO_173003 := n1_; have HO_173004 := n2_; have BK162 := n3_; have BK172 := n4_; have HB := n5_; clear n0_ n1_ n2_ n3_ n4_ n5_; (try clear hb); (try clear hb2); (try clear hk); (try clear hi); have hcz149_0 : w148.cell? ⟨gb172, 0, none⟩ = some (.int .i64 t163) := (blk_cell BK172.out 0).trans rfl; have hcz149_1 : w148.cell? ⟨gb172, 1, none⟩ = some (.int .i64 t164) := (blk_cell BK172.out 1).trans rfl; have hcz149_2 : w148.cell? ⟨gb172, 2, none⟩ = some (.int .i64 t165) := (blk_cell BK172.out 2).trans rfl; have hcz149_3 : w148.cell? ⟨gb172, 3, none⟩ = some (.slice Ao10 t166.length co10) := (blk_cell BK172.out 3).trans rfl; have hcz149_4 : w148.cell? ⟨gb172, 4, none⟩ = some (.slice Ao11 t169.length co11) := (blk_cell BK172.out 4).trans rfl; have hfz149_0 := blk_frozen BK172.out 0; have hfz149_1 := blk_frozen BK172.out 1; have hfz149_2 := blk_frozen BK172.out 2; have hfz149_3 := blk_frozen BK172.out 3; have hfz149_4 := blk_frozen BK172.out 4) | (go_at_call 43; (with_reducible refine (conf_Chains.calls k3 t163 t164 t165 _ _ t166 _ _ t169 a1 t187 _ ?side1 ?side2 ?side3 ?side4 A87.out).mono ?_); (case side1 => repeat (first | exact (Kd.R_reads' HO_173003.out).2.2 | (with_reducible refine Kd.C_alloc ?_ _) | (with_reducible refine Kd.C_drewN ?_ _) | (with_reducible refine Kd.C_drew ?_))); (case side2 => exact (Kd.R_reads' HO_173003.out).2.1); (case side3 => repeat (first | exact (Kd.R_reads' HO_173004.out).2.2 | (with_reducible refine Kd.C_alloc ?_ _) | (with_reducible refine Kd.C_drewN ?_ _) | (with_reducible refine Kd.C_drew ?_))); (case side4 => exact (Kd.R_reads' HO_173004.out).2.1); rintro e w150 ⟨rfl, hb⟩; have n0_ := Aside0.mk (Kd.R_below (by (with_reducible repeat (first | apply Kd.R_alloc | apply Kd.R_drewN | apply Kd.R_drew)); exact HO_11.out) hb); have n1_ := Aside0.mk (Kd.R_below (by (with_reducible repeat (first | apply Kd.R_alloc | apply Kd.R_drewN | apply Kd.R_drew)); exact HO_173003.out) hb); have n2_ := Aside0.mk (Kd.R_below (by (with_reducible repeat (first | apply Kd.R_alloc | apply Kd.R_drewN | apply Kd.R_drew)); exact HO_173004.out) hb); have n3_ := Aside0.mk (blk_below (g := gb162) (o := .cells #[.int .i64 a0_0, .int .i64 a0_1, .int .i64 a0_2, .slice A0_3 l0_3.length c0_3, .slice A0_4 l0_4.length c0_4] 31 (0, 0)) (by (with_reducible repeat (first | refine blk_drewN ?_ _ | refine blk_drew ?_ | refine blk_alloc ?_ _)); exact BK162.out) hb); have n4_ := Aside0.mk (blk_below (g := gb172) (o := .cells #[.int .i64 t163, .int .i64 t164, .int .i64 t165, .slice Ao10 t166.length co10, .slice Ao11 t169.length co11] 31 (0, 0)) (by (with_reducible repeat (first | refine blk_drewN ?_ _ | refine blk_drew ?_ | refine blk_alloc ?_ _)); exact BK172.out) hb); have n5_ := Aside0.mk (below_step (by repeat (first | (with_reducible first | exact HB.out | apply below_alloc | apply pw_below_drewN | apply below_drew1 | refine below_set ?_ GE162.out | refine below_set ?_ GE172.out) | exact HB.out)) hb); clear HO_11; clear HO_173003; clear HO_173004; clear BK162; clear BK172; clear HB; have HO_11 := n0_; have HO_173003 := n1_; have HO_173004 := n2_; have BK162 := n3_; have BK172 := n4_; have HB := n5_; clear n0_ n1_ n2_ n3_ n4_ n5_; (try clear hb); (try clear hb2); (try clear hk); (try clear hi); have hcz151_0 : w150.cell? ⟨gb172, 0, none⟩ = some (.int .i64 t163) := (blk_cell BK172.out 0).trans rfl; have hcz151_1 : w150.cell? ⟨gb172, 1, none⟩ = some (.int .i64 t164) := (blk_cell BK172.out 1).trans rfl; have hcz151_2 : w150.cell? ⟨gb172, 2, none⟩ = some (.int .i64 t165) := (blk_cell BK172.out 2).trans rfl; have hcz151_3 : w150.cell? ⟨gb172, 3, none⟩ = some (.slice Ao10 t166.length co10) := (blk_cell BK172.out 3).trans rfl; have hcz151_4 : w150.cell? ⟨gb172, 4, none⟩ = some (.slice Ao11 t169.length co11) := (blk_cell BK172.out 4).trans rfl; have hfz151_0 := blk_frozen BK172.out 0; have hfz151_1 := blk_frozen BK172.out 1; have hfz151_2 := blk_frozen BK172.out 2; have hfz151_3 := blk_frozen BK172.out 3; have hfz151_4 := blk_frozen BK172.out 4) | (go_at_call 44; (with_reducible refine (conf_Behind.calls k3 t163 t164 t165 _ _ t166 _ _ t169 a1 t188 _ ?side1 ?side2 ?side3 ?side4 A89.out).mono ?_); (case side1 => repeat (first | exact (Kd.R_reads' HO_173003.out).2.2 | (with_reducible refine Kd.C_alloc ?_ _) | (with_reducible refine Kd.C_drewN ?_ _) | (with_reducible refine Kd.C_drew ?_))); (case side2 => exact (Kd.R_reads' HO_173003.out).2.1); (case side3 => repeat (first | exact (Kd.R_reads' HO_173004.out).2.2 | (with_reducible refine Kd.C_alloc ?_ _) | (with_reducible refine Kd.C_drewN ?_ _) | (with_reducible refine Kd.C_drew ?_))); (case side4 => exact (Kd.R_reads' HO_173004.out).2.1); rintro e w152 ⟨rfl, hb⟩; have n0_ := Aside0.mk (Kd.R_below (by (with_reducible repeat (first | apply Kd.R_alloc | apply Kd.R_drewN | apply Kd.R_drew)); exact HO_11.out) hb); have n1_ := Aside0.mk (Kd.R_below (by (with_reducible repeat (first | apply Kd.R_alloc | apply Kd.R_drewN | apply Kd.R_drew)); exact HO_173003.out) hb); have n2_ := Aside0.mk (Kd.R_below (by (with_reducible repeat (first | apply Kd.R_alloc | apply Kd.R_drewN | apply Kd.R_drew)); exact HO_173004.out) hb); have n3_ := Aside0.mk (blk_below (g := gb162) (o := .cells #[.int .i64 a0_0, .int .i64 a0_1, .int .i64 a0_2, .slice A0_3 l0_3.length c0_3, .slice A0_4 l0_4.length c0_4] 31 (0, 0)) (by (with_reducible repeat (first | refine blk_drewN ?_ _ | refine blk_drew ?_ | refine blk_alloc ?_ _)); exact BK162.out) hb); have n4_ := Aside0.mk (blk_below (g := gb172) (o := .cells #[.int .i64 t163, .int .i64 t164, .int .i64 t165, .slice Ao10 t166.length co10, .slice Ao11 t169.length co11] 31 (0, 0)) (by (with_reducible repeat (first | refine blk_drewN ?_ _ | refine blk_drew ?_ | refine blk_alloc ?_ _)); exact BK172.out) hb); have n5_ := Aside0.mk (below_step (by repeat (first | (with_reducible first | exact HB.out | apply below_alloc | apply pw_below_drewN | apply below_drew1 | refine below_set ?_ GE162.out | refine below_set ?_ GE172.out) | exact HB.out)) hb); clear HO_11; clear HO_173003; clear HO_173004; clear BK162; clear BK172; clear HB; have HO_11 := n0_; have HO_173003 := n1_; have HO_173004 := n2_; have BK162 := n3_; have BK172 := n4_; have HB := n5_; clear n0_ n1_ n2_ n3_ n4_ n5_; (try clear hb); (try clear hb2); (try clear hk); (try clear hi)) | (go_at_call 45; (with_reducible refine (conf_Node.calls a1 t189 _ A91.out).mono ?_); rintro e w' ⟨rfl, ⟨nd, rfl⟩⟩))
                                  go_ret
                                  exact ⟨by first | rfl | (simp [errW_none, errW_some] <;> rfl) | (simp [*, errW_none, errW_some] <;> rfl), by repeat (first | (with_reducible first | exact HB.out | apply below_alloc | apply pw_below_drewN | apply below_drew1 | refine below_set ?_ GE162.out | refine below_set ?_ GE172.out) | exact HB.out)⟩
                            · rw [if_neg c90] at H
                              have c90b0 : (t188 == x8_2) = false := beq_eq_false_iff_ne.mpr c90
                              have c90b1 : (t188 != x8_2) = true := bne_iff_ne.mpr c90
                              obtain rfl := Option.some.inj H
                              go_wp2_with (first | ((with_reducible refine gate_callee (f := 27) rfl ?_); refine goesL_ (some 129) rfl rfl Try.func27 (by kernel_rfl) rfl #[] rfl (by (try simp only [List.map_toArray, List.map_cons, List.map_nil]); first | done | rfl | (simp only [List.length_drop, List.length_take]; rfl)) ?_; (with_reducible refine (tarnlaw11_awake.calls k3  true _ A82.out).mono ?_); rintro e w153 ⟨rfl, hb⟩; refine ⟨_, rfl, ?_⟩; have n0_ := Aside0.mk (Kd.R_below (by (with_reducible repeat (first | apply Kd.R_alloc | apply Kd.R_drewN | apply Kd.R_drew)); exact HO_11.out) hb); have n1_ := Aside0.mk (Kd.R_below (by (with_reducible repeat (first | apply Kd.R_alloc | apply Kd.R_drewN | apply Kd.R_drew)); exact HO_173003.out) hb); have n2_ := Aside0.mk (Kd.R_below (by (with_reducible repeat (first | apply Kd.R_alloc | apply Kd.R_drewN | apply Kd.R_drew)); exact HO_173004.out) hb); have n3_ := Aside0.mk (blk_below (g := gb162) (o := .cells #[.int .i64 a0_0, .int .i64 a0_1, .int .i64 a0_2, .slice A0_3 l0_3.length c0_3, .slice A0_4 l0_4.length c0_4] 31 (0, 0)) (by (with_reducible repeat (first | refine blk_drewN ?_ _ | refine blk_drew ?_ | refine blk_alloc ?_ _)); exact BK162.out) hb); have n4_ := Aside0.mk (blk_below (g := gb172) (o := .cells #[.int .i64 t163, .int .i64 t164, .int .i64 t165, .slice Ao10 t166.length co10, .slice Ao11 t169.length co11] 31 (0, 0)) (by (with_reducible repeat (first | refine blk_drewN ?_ _ | refine blk_drew ?_ | refine blk_alloc ?_ _)); exact BK172.out) hb); have n5_ := Aside0.mk (below_step (by repeat (first | (with_reducible first | exact HB.out | apply below_alloc | apply pw_below_drewN | apply below_drew1 | refine below_set ?_ GE162.out | refine below_set ?_ GE172.out) | exact HB.out)) hb); clear HO_11; clear HO_173003; clear HO_173004; clear BK162; clear BK172; clear HB; have HO_11 := n0_; have HO_173003 := n1_; have HO_173004 := n2_; have BK162 := n3_; have BK172 := n4_; have HB := n5_; clear n0_ n1_ n2_ n3_ n4_ n5_; (try clear hb); (try clear hb2); (try clear hk); (try clear hi); obtain ⟨Ao154, co154, eo154⟩ := Kd.R_slice HO_11.out; subst eo154; have hnb155 := NB172_162.out; have hnc155 := NB162_172.out; have hcz156_0 : w153.cell? ⟨gb172, 0, none⟩ = some (.int .i64 t163) := (blk_cell BK172.out 0).trans rfl; have hcz156_1 : w153.cell? ⟨gb172, 1, none⟩ = some (.int .i64 t164) := (blk_cell BK172.out 1).trans rfl; have hcz156_2 : w153.cell? ⟨gb172, 2, none⟩ = some (.int .i64 t165) := (blk_cell BK172.out 2).trans rfl; have hcz156_3 : w153.cell? ⟨gb172, 3, none⟩ = some (.slice Ao10 t166.length co10) := (blk_cell BK172.out 3).trans rfl; have hcz156_4 : w153.cell? ⟨gb172, 4, none⟩ = some (.slice Ao11 t169.length co11) := (blk_cell BK172.out 4).trans rfl; have hfz156_0 := blk_frozen BK172.out 0; have hfz156_1 := blk_frozen BK172.out 1; have hfz156_2 := blk_frozen BK172.out 2; have hfz156_3 := blk_frozen BK172.out 3; have hfz156_4 := blk_frozen BK172.out 4) | (go_at_call 42; (with_reducible refine (conf_Mirrors.calls k3 t163 t164 t165 _ _ t166 _ _ t169 a1 t186 _ ?side1 ?side2 ?side3 ?side4 A85.out).mono ?_); (case side1 => repeat (first | exact (Kd.R_reads' HO_173003.out).2.2 | (with_reducible refine Kd.C_alloc ?_ _) | (with_reducible refine Kd.C_drewN ?_ _) | (with_reducible refine Kd.C_drew ?_))); (case side2 => exact (Kd.R_reads' HO_173003.out).2.1); (case side3 => repeat (first | exact (Kd.R_reads' HO_173004.out).2.2 | (with_reducible refine Kd.C_alloc ?_ _) | (with_reducible refine Kd.C_drewN ?_ _) | (with_reducible refine Kd.C_drew ?_))); (case side4 => exact (Kd.R_reads' HO_173004.out).2.1); rintro e w157 ⟨rfl, hb⟩; have n0_ := Aside0.mk (Kd.R_below (by (with_reducible repeat (first | apply Kd.R_alloc | apply Kd.R_drewN | apply Kd.R_drew)); exact HO_11.out) hb); have n1_ := Aside0.mk (Kd.R_below (by (with_reducible repeat (first | apply Kd.R_alloc | apply Kd.R_drewN | apply Kd.R_drew)); exact HO_173003.out) hb); have n2_ := Aside0.mk (Kd.R_below (by (with_reducible repeat (first | apply Kd.R_alloc | apply Kd.R_drewN | apply Kd.R_drew)); exact HO_173004.out) hb); have n3_ := Aside0.mk (blk_below (g := gb162) (o := .cells #[.int .i64 a0_0, .int .i64 a0_1, .int .i64 a0_2, .slice A0_3 l0_3.length c0_3, .slice A0_4 l0_4.length c0_4] 31 (0, 0)) (by (with_reducible repeat (first | refine blk_drewN ?_ _ | refine blk_drew ?_ | refine blk_alloc ?_ _)); exact BK162.out) hb); have n4_ := Aside0.mk (blk_below (g := gb172) (o := .cells #[.int .i64 t163, .int .i64 t164, .int .i64 t165, .slice Ao10 t166.length co10, .slice Ao11 t169.length co11] 31 (0, 0)) (by (with_reducible repeat (first | refine blk_drewN ?_ _ | refine blk_drew ?_ | refine blk_alloc ?_ _)); exact BK172.out) hb); have n5_ := Aside0.mk (below_step (by repeat (first | (with_reducible first | exact HB.out | apply below_alloc | apply pw_below_drewN | apply below_drew1 | refine below_set ?_ GE162.out | refine below_set ?_ GE172.out) | exact HB.out)) hb); clear HO_11; clear HO_173003; clear HO_173004; clear BK162; clear BK172; clear HB; have HO_11 := n0_; have HO_173003 := n1_; have HO_173004 := n2_; have BK162 := n3_; have BK172 := n4_; have HB := n5_; clear n0_ n1_ n2_ n3_ n4_ n5_; (try clear hb); (try clear hb2); (try clear hk); (try clear hi); have hcz158_0 : w157.cell? ⟨gb172, 0, none⟩ = some (.int .i64 t163) := (blk_cell BK172.out 0).trans rfl; have hcz158_1 : w157.cell? ⟨gb172, 1, none⟩ = some (.int .i64 t164) := (blk_cell BK172.out 1).trans rfl; have hcz158_2 : w157.cell? ⟨gb172, 2, none⟩ = some (.int .i64 t165) := (blk_cell BK172.out 2).trans rfl; have hcz158_3 : w157.cell? ⟨gb172, 3, none⟩ = some (.slice Ao10 t166.length co10) := (blk_cell BK172.out 3).trans rfl; have hcz158_4 : w157.cell? ⟨gb172, 4, none⟩ = some (.slice Ao11 t169.length co11) := (blk_cell BK172.out 4).trans rfl; have hfz158_0 := blk_frozen BK172.out 0; have hfz158_1 := blk_frozen BK172.out 1; have hfz158_2 := blk_frozen BK172.out 2; have hfz158_3 := blk_frozen BK172.out 3; have hfz158_4 := blk_frozen BK172.out 4) | (go_at_call 43; (with_reducible refine (conf_Chains.calls k3 t163 t164 t165 _ _ t166 _ _ t169 a1 t187 _ ?side1 ?side2 ?side3 ?side4 A87.out).mono ?_); (case side1 => repeat (first | exact (Kd.R_reads' HO_173003.out).2.2 | (with_reducible refine Kd.C_alloc ?_ _) | (with_reducible refine Kd.C_drewN ?_ _) | (with_reducible refine Kd.C_drew ?_))); (case side2 => exact (Kd.R_reads' HO_173003.out).2.1); (case side3 => repeat (first | exact (Kd.R_reads' HO_173004.out).2.2 | (with_reducible refine Kd.C_alloc ?_ _) | (with_reducible refine Kd.C_drewN ?_ _) | (with_reducible refine Kd.C_drew ?_))); (case side4 => exact (Kd.R_reads' HO_173004.out).2.1); rintro e w159 ⟨rfl, hb⟩; have n0_ := Aside0.mk (Kd.R_below (by (with_reducible repeat (first | apply Kd.R_alloc | apply Kd.R_drewN | apply Kd.R_drew)); exact HO_11.out) hb); have n1_ := Aside0.mk (Kd.R_below (by (with_reducible repeat (first | apply Kd.R_alloc | apply Kd.R_drewN | apply Kd.R_drew)); exact HO_173003.out) hb); have n2_ := Aside0.mk (Kd.R_below (by (with_reducible repeat (first | apply Kd.R_alloc | apply Kd.R_drewN | apply Kd.R_drew)); exact HO_173004.out) hb); have n3_ := Aside0.mk (blk_below (g := gb162) (o := .cells #[.int .i64 a0_0, .int .i64 a0_1, .int .i64 a0_2, .slice A0_3 l0_3.length c0_3, .slice A0_4 l0_4.length c0_4] 31 (0, 0)) (by (with_reducible repeat (first | refine blk_drewN ?_ _ | refine blk_drew ?_ | refine blk_alloc ?_ _)); exact BK162.out) hb); have n4_ := Aside0.mk (blk_below (g := gb172) (o := .cells #[.int .i64 t163, .int .i64 t164, .int .i64 t165, .slice Ao10 t166.length co10, .slice Ao11 t169.length co11] 31 (0, 0)) (by (with_reducible repeat (first | refine blk_drewN ?_ _ | refine blk_drew ?_ | refine blk_alloc ?_ _)); exact BK172.out) hb); have n5_ := Aside0.mk (below_step (by repeat (first | (with_reducible first | exact HB.out | apply below_alloc | apply pw_below_drewN | apply below_drew1 | refine below_set ?_ GE162.out | refine below_set ?_ GE172.out) | exact HB.out)) hb); clear HO_11; clear HO_173003; clear HO_173004; clear BK162; clear BK172; clear HB; have HO_11 := n0_; have HO_173003 := n1_; have HO_173004 := n2_; have BK162 := n3_; have BK172 := n4_; have HB := n5_; clear n0_ n1_ n2_ n3_ n4_ n5_; (try clear hb); (try clear hb2); (try clear hk); (try clear hi); have hcz160_0 : w159.cell? ⟨gb172, 0, none⟩ = some (.int .i64 t163) := (blk_cell BK172.out 0).trans rfl; have hcz160_1 : w159.cell? ⟨gb172, 1, none⟩ = some (.int .i64 t164) := (blk_cell BK172.out 1).trans rfl; have hcz160_2 : w159.cell? ⟨gb172, 2, none⟩ = some (.int .i64 t165) := (blk_cell BK172.out 2).trans rfl; have hcz160_3 : w159.cell? ⟨gb172, 3, none⟩ = some (.slice Ao10 t166.length co10) := (blk_cell BK172.out 3).trans rfl; have hcz160_4 : w159.cell? ⟨gb172, 4, none⟩ = some (.slice Ao11 t169.length co11) := (blk_cell BK172.out 4).trans rfl; have hfz160_0 := blk_frozen BK172.out 0; have hfz160_1 := blk_frozen BK172.out 1; have hfz160_2 := blk_frozen BK172.out 2; have hfz160_3 := blk_frozen BK172.out 3; have hfz160_4 := blk_frozen BK172.out 4) | (go_at_call 44; (with_reducible refine (conf_Behind.calls k3 t163 t164 t165 _ _ t166 _ _ t169 a1 t188 _ ?side1 ?side2 ?side3 ?side4 A89.out).mono ?_); (case side1 => repeat (first | exact (Kd.R_reads' HO_173003.out).2.2 | (with_reducible refine Kd.C_alloc ?_ _) | (with_reducible refine Kd.C_drewN ?_ _) | (with_reducible refine Kd.C_drew ?_))); (case side2 => exact (Kd.R_reads' HO_173003.out).2.1); (case side3 => repeat (first | exact (Kd.R_reads' HO_173004.out).2.2 | (with_reducible refine Kd.C_alloc ?_ _) | (with_reducible refine Kd.C_drewN ?_ _) | (with_reducible refine Kd.C_drew ?_))); (case side4 => exact (Kd.R_reads' HO_173004.out).2.1); rintro e w161 ⟨rfl, hb⟩; have n0_ := Aside0.mk (Kd.R_below (by (with_reducible repeat (first | apply Kd.R_alloc | apply Kd.R_drewN | apply Kd.R_drew)); exact HO_11.out) hb); have n1_ := Aside0.mk (Kd.R_below (by (with_reducible repeat (first | apply Kd.R_alloc | apply Kd.R_drewN | apply Kd.R_drew)); exact HO_173003.out) hb); have n2_ := Aside0.mk (Kd.R_below (by (with_reducible repeat (first | apply Kd.R_alloc | apply Kd.R_drewN | apply Kd.R_drew)); exact HO_173004.out) hb); have n3_ := Aside0.mk (blk_below (g := gb162) (o := .cells #[.int .i64 a0_0, .int .i64 a0_1, .int .i64 a0_2, .slice A0_3 l0_3.length c0_3, .slice A0_4 l0_4.length c0_4] 31 (0, 0)) (by (with_reducible repeat (first | refine blk_drewN ?_ _ | refine blk_drew ?_ | refine blk_alloc ?_ _)); exact BK162.out) hb); have n4_ := Aside0.mk (blk_below (g := gb172) (o := .cells #[.int .i64 t163, .int .i64 t164, .int .i64 t165, .slice Ao10 t166.length co10, .slice Ao11 t169.length co11] 31 (0, 0)) (by (with_reducible repeat (first | refine blk_drewN ?_ _ | refine blk_drew ?_ | refine blk_alloc ?_ _)); exact BK172.out) hb); have n5_ := Aside0.mk (below_step (by repeat (first | (with_reducible first | exact HB.out | apply below_alloc | apply pw_below_drewN | apply below_drew1 | refine below_set ?_ GE162.out | refine below_set ?_ GE172.out) | exact HB.out)) hb); clear HO_11; clear HO_173003; clear HO_173004; clear BK162; clear BK172; clear HB; have HO_11 := n0_; have HO_173003 := n1_; have HO_173004 := n2_; have BK162 := n3_; have BK172 := n4_; have HB := n5_; clear n0_ n1_ n2_ n3_ n4_ n5_; (try clear hb); (try clear hb2); (try clear hk); (try clear hi)))
                              go_ret
                              exact ⟨by first | rfl | (simp [errW_none, errW_some] <;> rfl) | (simp [*, errW_none, errW_some] <;> rfl), by repeat (first | (with_reducible first | exact HB.out | apply below_alloc | apply pw_below_drewN | apply below_drew1 | refine below_set ?_ GE162.out | refine below_set ?_ GE172.out) | exact HB.out)⟩
                          · rw [if_neg c88] at H
                            have c88b0 : (t187 == x7_2) = false := by simpa using c88
                            (try (have c88b1 : decide (t187 = x7_2) = false := by simpa using c88))
                            (try (have c88b2 : (t187 == x7_2) = false := by simpa using c88))
                            (try (have c88b3 : ¬ (t187 = x7_2) := by simpa using c88))
                            clear c88
                            obtain rfl := Option.some.inj H
                            go_wp2_with (first | ((with_reducible refine gate_callee (f := 27) rfl ?_); refine goesL_ (some 129) rfl rfl Try.func27 (by kernel_rfl) rfl #[] rfl (by (try simp only [List.map_toArray, List.map_cons, List.map_nil]); first | done | rfl | (simp only [List.length_drop, List.length_take]; rfl)) ?_; (with_reducible refine (tarnlaw11_awake.calls k3  true _ A82.out).mono ?_); rintro e w162 ⟨rfl, hb⟩; refine ⟨_, rfl, ?_⟩; have n0_ := Aside0.mk (Kd.R_below (by (with_reducible repeat (first | apply Kd.R_alloc | apply Kd.R_drewN | apply Kd.R_drew)); exact HO_11.out) hb); have n1_ := Aside0.mk (Kd.R_below (by (with_reducible repeat (first | apply Kd.R_alloc | apply Kd.R_drewN | apply Kd.R_drew)); exact HO_173003.out) hb); have n2_ := Aside0.mk (Kd.R_below (by (with_reducible repeat (first | apply Kd.R_alloc | apply Kd.R_drewN | apply Kd.R_drew)); exact HO_173004.out) hb); have n3_ := Aside0.mk (blk_below (g := gb162) (o := .cells #[.int .i64 a0_0, .int .i64 a0_1, .int .i64 a0_2, .slice A0_3 l0_3.length c0_3, .slice A0_4 l0_4.length c0_4] 31 (0, 0)) (by (with_reducible repeat (first | refine blk_drewN ?_ _ | refine blk_drew ?_ | refine blk_alloc ?_ _)); exact BK162.out) hb); have n4_ := Aside0.mk (blk_below (g := gb172) (o := .cells #[.int .i64 t163, .int .i64 t164, .int .i64 t165, .slice Ao10 t166.length co10, .slice Ao11 t169.length co11] 31 (0, 0)) (by (with_reducible repeat (first | refine blk_drewN ?_ _ | refine blk_drew ?_ | refine blk_alloc ?_ _)); exact BK172.out) hb); have n5_ := Aside0.mk (below_step (by repeat (first | (with_reducible first | exact HB.out | apply below_alloc | apply pw_below_drewN | apply below_drew1 | refine below_set ?_ GE162.out | refine below_set ?_ GE172.out) | exact HB.out)) hb); clear HO_11; clear HO_173003; clear HO_173004; clear BK162; clear BK172; clear HB; have HO_11 := n0_; have HO_173003 := n1_; have HO_173004 := n2_; have BK162 := n3_; have BK172 := n4_; have HB := n5_; clear n0_ n1_ n2_ n3_ n4_ n5_; (try clear hb); (try clear hb2); (try clear hk); (try clear hi); obtain ⟨Ao163, co163, eo163⟩ := Kd.R_slice HO_11.out; subst eo163; have hnb164 := NB172_162.out; have hnc164 := NB162_172.out; have hcz165_0 : w162.cell? ⟨gb172, 0, none⟩ = some (.int .i64 t163) := (blk_cell BK172.out 0).trans rfl; have hcz165_1 : w162.cell? ⟨gb172, 1, none⟩ = some (.int .i64 t164) := (blk_cell BK172.out 1).trans rfl; have hcz165_2 : w162.cell? ⟨gb172, 2, none⟩ = some (.int .i64 t165) := (blk_cell BK172.out 2).trans rfl; have hcz165_3 : w162.cell? ⟨gb172, 3, none⟩ = some (.slice Ao10 t166.length co10) := (blk_cell BK172.out 3).trans rfl; have hcz165_4 : w162.cell? ⟨gb172, 4, none⟩ = some (.slice Ao11 t169.length co11) := (blk_cell BK172.out 4).trans rfl; have hfz165_0 := blk_frozen BK172.out 0; have hfz165_1 := blk_frozen BK172.out 1; have hfz165_2 := blk_frozen BK172.out 2; have hfz165_3 := blk_frozen BK172.out 3; have hfz165_4 := blk_frozen BK172.out 4) | (go_at_call 42; (with_reducible refine (conf_Mirrors.calls k3 t163 t164 t165 _ _ t166 _ _ t169 a1 t186 _ ?side1 ?side2 ?side3 ?side4 A85.out).mono ?_); (case side1 => repeat (first | exact (Kd.R_reads' HO_173003.out).2.2 | (with_reducible refine Kd.C_alloc ?_ _) | (with_reducible refine Kd.C_drewN ?_ _) | (with_reducible refine Kd.C_drew ?_))); (case side2 => exact (Kd.R_reads' HO_173003.out).2.1); (case side3 => repeat (first | exact (Kd.R_reads' HO_173004.out).2.2 | (with_reducible refine Kd.C_alloc ?_ _) | (with_reducible refine Kd.C_drewN ?_ _) | (with_reducible refine Kd.C_drew ?_))); (case side4 => exact (Kd.R_reads' HO_173004.out).2.1); rintro e w166 ⟨rfl, hb⟩; have n0_ := Aside0.mk (Kd.R_below (by (with_reducible repeat (first | apply Kd.R_alloc | apply Kd.R_drewN | apply Kd.R_drew)); exact HO_11.out) hb); have n1_ := Aside0.mk (Kd.R_below (by (with_reducible repeat (first | apply Kd.R_alloc | apply Kd.R_drewN | apply Kd.R_drew)); exact HO_173003.out) hb); have n2_ := Aside0.mk (Kd.R_below (by (with_reducible repeat (first | apply Kd.R_alloc | apply Kd.R_drewN | apply Kd.R_drew)); exact HO_173004.out) hb); have n3_ := Aside0.mk (blk_below (g := gb162) (o := .cells #[.int .i64 a0_0, .int .i64 a0_1, .int .i64 a0_2, .slice A0_3 l0_3.length c0_3, .slice A0_4 l0_4.length c0_4] 31 (0, 0)) (by (with_reducible repeat (first | refine blk_drewN ?_ _ | refine blk_drew ?_ | refine blk_alloc ?_ _)); exact BK162.out) hb); have n4_ := Aside0.mk (blk_below (g := gb172) (o := .cells #[.int .i64 t163, .int .i64 t164, .int .i64 t165, .slice Ao10 t166.length co10, .slice Ao11 t169.length co11] 31 (0, 0)) (by (with_reducible repeat (first | refine blk_drewN ?_ _ | refine blk_drew ?_ | refine blk_alloc ?_ _)); exact BK172.out) hb); have n5_ := Aside0.mk (below_step (by repeat (first | (with_reducible first | exact HB.out | apply below_alloc | apply pw_below_drewN | apply below_drew1 | refine below_set ?_ GE162.out | refine below_set ?_ GE172.out) | exact HB.out)) hb); clear HO_11; clear HO_173003; clear HO_173004; clear BK162; clear BK172; clear HB; have HO_11 := n0_; have HO_173003 := n1_; have HO_173004 := n2_; have BK162 := n3_; have BK172 := n4_; have HB := n5_; clear n0_ n1_ n2_ n3_ n4_ n5_; (try clear hb); (try clear hb2); (try clear hk); (try clear hi); have hcz167_0 : w166.cell? ⟨gb172, 0, none⟩ = some (.int .i64 t163) := (blk_cell BK172.out 0).trans rfl; have hcz167_1 : w166.cell? ⟨gb172, 1, none⟩ = some (.int .i64 t164) := (blk_cell BK172.out 1).trans rfl; have hcz167_2 : w166.cell? ⟨gb172, 2, none⟩ = some (.int .i64 t165) := (blk_cell BK172.out 2).trans rfl; have hcz167_3 : w166.cell? ⟨gb172, 3, none⟩ = some (.slice Ao10 t166.length co10) := (blk_cell BK172.out 3).trans rfl; have hcz167_4 : w166.cell? ⟨gb172, 4, none⟩ = some (.slice Ao11 t169.length co11) := (blk_cell BK172.out 4).trans rfl; have hfz167_0 := blk_frozen BK172.out 0; have hfz167_1 := blk_frozen BK172.out 1; have hfz167_2 := blk_frozen BK172.out 2; have hfz167_3 := blk_frozen BK172.out 3; have hfz167_4 := blk_frozen BK172.out 4) | (go_at_call 43; (with_reducible refine (conf_Chains.calls k3 t163 t164 t165 _ _ t166 _ _ t169 a1 t187 _ ?side1 ?side2 ?side3 ?side4 A87.out).mono ?_); (case side1 => repeat (first | exact (Kd.R_reads' HO_173003.out).2.2 | (with_reducible refine Kd.C_alloc ?_ _) | (with_reducible refine Kd.C_drewN ?_ _) | (with_reducible refine Kd.C_drew ?_))); (case side2 => exact (Kd.R_reads' HO_173003.out).2.1); (case side3 => repeat (first | exact (Kd.R_reads' HO_173004.out).2.2 | (with_reducible refine Kd.C_alloc ?_ _) | (with_reducible refine Kd.C_drewN ?_ _) | (with_reducible refine Kd.C_drew ?_))); (case side4 => exact (Kd.R_reads' HO_173004.out).2.1); rintro e w168 ⟨rfl, hb⟩; have n0_ := Aside0.mk (Kd.R_below (by (with_reducible repeat (first | apply Kd.R_alloc | apply Kd.R_drewN | apply Kd.R_drew)); exact HO_11.out) hb); have n1_ := Aside0.mk (Kd.R_below (by (with_reducible repeat (first | apply Kd.R_alloc | apply Kd.R_drewN | apply Kd.R_drew)); exact HO_173003.out) hb); have n2_ := Aside0.mk (Kd.R_below (by (with_reducible repeat (first | apply Kd.R_alloc | apply Kd.R_drewN | apply Kd.R_drew)); exact HO_173004.out) hb); have n3_ := Aside0.mk (blk_below (g := gb162) (o := .cells #[.int .i64 a0_0, .int .i64 a0_1, .int .i64 a0_2, .slice A0_3 l0_3.length c0_3, .slice A0_4 l0_4.length c0_4] 31 (0, 0)) (by (with_reducible repeat (first | refine blk_drewN ?_ _ | refine blk_drew ?_ | refine blk_alloc ?_ _)); exact BK162.out) hb); have n4_ := Aside0.mk (blk_below (g := gb172) (o := .cells #[.int .i64 t163, .int .i64 t164, .int .i64 t165, .slice Ao10 t166.length co10, .slice Ao11 t169.length co11] 31 (0, 0)) (by (with_reducible repeat (first | refine blk_drewN ?_ _ | refine blk_drew ?_ | refine blk_alloc ?_ _)); exact BK172.out) hb); have n5_ := Aside0.mk (below_step (by repeat (first | (with_reducible first | exact HB.out | apply below_alloc | apply pw_below_drewN | apply below_drew1 | refine below_set ?_ GE162.out | refine below_set ?_ GE172.out) | exact HB.out)) hb); clear HO_11; clear HO_173003; clear HO_173004; clear BK162; clear BK172; clear HB; have HO_11 := n0_; have HO_173003 := n1_; have HO_173004 := n2_; have BK162 := n3_; have BK172 := n4_; have HB := n5_; clear n0_ n1_ n2_ n3_ n4_ n5_; (try clear hb); (try clear hb2); (try clear hk); (try clear hi)))
                            go_ret
                            exact ⟨by first | rfl | (simp [errW_none, errW_some] <;> rfl) | (simp [*, errW_none, errW_some] <;> rfl), by repeat (first | (with_reducible first | exact HB.out | apply below_alloc | apply pw_below_drewN | apply below_drew1 | refine below_set ?_ GE162.out | refine below_set ?_ GE172.out) | exact HB.out)⟩
                        · rw [if_neg c86] at H
                          have c86b0 : (t186 == x6_1) = false := by simpa using c86
                          (try (have c86b1 : decide (t186 = x6_1) = false := by simpa using c86))
                          (try (have c86b2 : (t186 == x6_1) = false := by simpa using c86))
                          (try (have c86b3 : ¬ (t186 = x6_1) := by simpa using c86))
                          clear c86
                          obtain rfl := Option.some.inj H
                          go_wp2_with (first | ((with_reducible refine gate_callee (f := 27) rfl ?_); refine goesL_ (some 129) rfl rfl Try.func27 (by kernel_rfl) rfl #[] rfl (by (try simp only [List.map_toArray, List.map_cons, List.map_nil]); first | done | rfl | (simp only [List.length_drop, List.length_take]; rfl)) ?_; (with_reducible refine (tarnlaw11_awake.calls k3  true _ A82.out).mono ?_); rintro e w169 ⟨rfl, hb⟩; refine ⟨_, rfl, ?_⟩; have n0_ := Aside0.mk (Kd.R_below (by (with_reducible repeat (first | apply Kd.R_alloc | apply Kd.R_drewN | apply Kd.R_drew)); exact HO_11.out) hb); have n1_ := Aside0.mk (Kd.R_below (by (with_reducible repeat (first | apply Kd.R_alloc | apply Kd.R_drewN | apply Kd.R_drew)); exact HO_173003.out) hb); have n2_ := Aside0.mk (Kd.R_below (by (with_reducible repeat (first | apply Kd.R_alloc | apply Kd.R_drewN | apply Kd.R_drew)); exact HO_173004.out) hb); have n3_ := Aside0.mk (blk_below (g := gb162) (o := .cells #[.int .i64 a0_0, .int .i64 a0_1, .int .i64 a0_2, .slice A0_3 l0_3.length c0_3, .slice A0_4 l0_4.length c0_4] 31 (0, 0)) (by (with_reducible repeat (first | refine blk_drewN ?_ _ | refine blk_drew ?_ | refine blk_alloc ?_ _)); exact BK162.out) hb); have n4_ := Aside0.mk (blk_below (g := gb172) (o := .cells #[.int .i64 t163, .int .i64 t164, .int .i64 t165, .slice Ao10 t166.length co10, .slice Ao11 t169.length co11] 31 (0, 0)) (by (with_reducible repeat (first | refine blk_drewN ?_ _ | refine blk_drew ?_ | refine blk_alloc ?_ _)); exact BK172.out) hb); have n5_ := Aside0.mk (below_step (by repeat (first | (with_reducible first | exact HB.out | apply below_alloc | apply pw_below_drewN | apply below_drew1 | refine below_set ?_ GE162.out | refine below_set ?_ GE172.out) | exact HB.out)) hb); clear HO_11; clear HO_173003; clear HO_173004; clear BK162; clear BK172; clear HB; have HO_11 := n0_; have HO_173003 := n1_; have HO_173004 := n2_; have BK162 := n3_; have BK172 := n4_; have HB := n5_; clear n0_ n1_ n2_ n3_ n4_ n5_; (try clear hb); (try clear hb2); (try clear hk); (try clear hi); obtain ⟨Ao170, co170, eo170⟩ := Kd.R_slice HO_11.out; subst eo170; have hnb171 := NB172_162.out; have hnc171 := NB162_172.out; have hcz172_0 : w169.cell? ⟨gb172, 0, none⟩ = some (.int .i64 t163) := (blk_cell BK172.out 0).trans rfl; have hcz172_1 : w169.cell? ⟨gb172, 1, none⟩ = some (.int .i64 t164) := (blk_cell BK172.out 1).trans rfl; have hcz172_2 : w169.cell? ⟨gb172, 2, none⟩ = some (.int .i64 t165) := (blk_cell BK172.out 2).trans rfl; have hcz172_3 : w169.cell? ⟨gb172, 3, none⟩ = some (.slice Ao10 t166.length co10) := (blk_cell BK172.out 3).trans rfl; have hcz172_4 : w169.cell? ⟨gb172, 4, none⟩ = some (.slice Ao11 t169.length co11) := (blk_cell BK172.out 4).trans rfl; have hfz172_0 := blk_frozen BK172.out 0; have hfz172_1 := blk_frozen BK172.out 1; have hfz172_2 := blk_frozen BK172.out 2; have hfz172_3 := blk_frozen BK172.out 3; have hfz172_4 := blk_frozen BK172.out 4) | (go_at_call 42; (with_reducible refine (conf_Mirrors.calls k3 t163 t164 t165 _ _ t166 _ _ t169 a1 t186 _ ?side1 ?side2 ?side3 ?side4 A85.out).mono ?_); (case side1 => repeat (first | exact (Kd.R_reads' HO_173003.out).2.2 | (with_reducible refine Kd.C_alloc ?_ _) | (with_reducible refine Kd.C_drewN ?_ _) | (with_reducible refine Kd.C_drew ?_))); (case side2 => exact (Kd.R_reads' HO_173003.out).2.1); (case side3 => repeat (first | exact (Kd.R_reads' HO_173004.out).2.2 | (with_reducible refine Kd.C_alloc ?_ _) | (with_reducible refine Kd.C_drewN ?_ _) | (with_reducible refine Kd.C_drew ?_))); (case side4 => exact (Kd.R_reads' HO_173004.out).2.1); rintro e w173 ⟨rfl, hb⟩; have n0_ := Aside0.mk (Kd.R_below (by (with_reducible repeat (first | apply Kd.R_alloc | apply Kd.R_drewN | apply Kd.R_drew)); exact HO_11.out) hb); have n1_ := Aside0.mk (Kd.R_below (by (with_reducible repeat (first | apply Kd.R_alloc | apply Kd.R_drewN | apply Kd.R_drew)); exact HO_173003.out) hb); have n2_ := Aside0.mk (Kd.R_below (by (with_reducible repeat (first | apply Kd.R_alloc | apply Kd.R_drewN | apply Kd.R_drew)); exact HO_173004.out) hb); have n3_ := Aside0.mk (blk_below (g := gb162) (o := .cells #[.int .i64 a0_0, .int .i64 a0_1, .int .i64 a0_2, .slice A0_3 l0_3.length c0_3, .slice A0_4 l0_4.length c0_4] 31 (0, 0)) (by (with_reducible repeat (first | refine blk_drewN ?_ _ | refine blk_drew ?_ | refine blk_alloc ?_ _)); exact BK162.out) hb); have n4_ := Aside0.mk (blk_below (g := gb172) (o := .cells #[.int .i64 t163, .int .i64 t164, .int .i64 t165, .slice Ao10 t166.length co10, .slice Ao11 t169.length co11] 31 (0, 0)) (by (with_reducible repeat (first | refine blk_drewN ?_ _ | refine blk_drew ?_ | refine blk_alloc ?_ _)); exact BK172.out) hb); have n5_ := Aside0.mk (below_step (by repeat (first | (with_reducible first | exact HB.out | apply below_alloc | apply pw_below_drewN | apply below_drew1 | refine below_set ?_ GE162.out | refine below_set ?_ GE172.out) | exact HB.out)) hb); clear HO_11; clear HO_173003; clear HO_173004; clear BK162; clear BK172; clear HB; have HO_11 := n0_; have HO_173003 := n1_; have HO_173004 := n2_; have BK162 := n3_; have BK172 := n4_; have HB := n5_; clear n0_ n1_ n2_ n3_ n4_ n5_; (try clear hb); (try clear hb2); (try clear hk); (try clear hi)))
                          go_ret
                          exact ⟨by first | rfl | (simp [errW_none, errW_some] <;> rfl) | (simp [*, errW_none, errW_some] <;> rfl), by repeat (first | (with_reducible first | exact HB.out | apply below_alloc | apply pw_below_drewN | apply below_drew1 | refine below_set ?_ GE162.out | refine below_set ?_ GE172.out) | exact HB.out)⟩
                      · rw [if_neg c84] at H
                        have c84b0 : (x12_3 == (t179.length : Int)) = false := beq_eq_false_iff_ne.mpr c84
                        have c84b1 : (x12_3 != (t179.length : Int)) = true := bne_iff_ne.mpr c84
                        obtain rfl := Option.some.inj H
                        go_wp2_with (first | ((with_reducible refine gate_callee (f := 27) rfl ?_); refine goesL_ (some 129) rfl rfl Try.func27 (by kernel_rfl) rfl #[] rfl (by (try simp only [List.map_toArray, List.map_cons, List.map_nil]); first | done | rfl | (simp only [List.length_drop, List.length_take]; rfl)) ?_; (with_reducible refine (tarnlaw11_awake.calls k3  true _ A82.out).mono ?_); rintro e w174 ⟨rfl, hb⟩; refine ⟨_, rfl, ?_⟩; have n0_ := Aside0.mk (Kd.R_below (by (with_reducible repeat (first | apply Kd.R_alloc | apply Kd.R_drewN | apply Kd.R_drew)); exact HO_11.out) hb); have n1_ := Aside0.mk (Kd.R_below (by (with_reducible repeat (first | apply Kd.R_alloc | apply Kd.R_drewN | apply Kd.R_drew)); exact HO_173003.out) hb); have n2_ := Aside0.mk (Kd.R_below (by (with_reducible repeat (first | apply Kd.R_alloc | apply Kd.R_drewN | apply Kd.R_drew)); exact HO_173004.out) hb); have n3_ := Aside0.mk (blk_below (g := gb162) (o := .cells #[.int .i64 a0_0, .int .i64 a0_1, .int .i64 a0_2, .slice A0_3 l0_3.length c0_3, .slice A0_4 l0_4.length c0_4] 31 (0, 0)) (by (with_reducible repeat (first | refine blk_drewN ?_ _ | refine blk_drew ?_ | refine blk_alloc ?_ _)); exact BK162.out) hb); have n4_ := Aside0.mk (blk_below (g := gb172) (o := .cells #[.int .i64 t163, .int .i64 t164, .int .i64 t165, .slice Ao10 t166.length co10, .slice Ao11 t169.length co11] 31 (0, 0)) (by (with_reducible repeat (first | refine blk_drewN ?_ _ | refine blk_drew ?_ | refine blk_alloc ?_ _)); exact BK172.out) hb); have n5_ := Aside0.mk (below_step (by repeat (first | (with_reducible first | exact HB.out | apply below_alloc | apply pw_below_drewN | apply below_drew1 | refine below_set ?_ GE162.out | refine below_set ?_ GE172.out) | exact HB.out)) hb); clear HO_11; clear HO_173003; clear HO_173004; clear BK162; clear BK172; clear HB; have HO_11 := n0_; have HO_173003 := n1_; have HO_173004 := n2_; have BK162 := n3_; have BK172 := n4_; have HB := n5_; clear n0_ n1_ n2_ n3_ n4_ n5_; (try clear hb); (try clear hb2); (try clear hk); (try clear hi); obtain ⟨Ao175, co175, eo175⟩ := Kd.R_slice HO_11.out; subst eo175))
                        go_ret
                        exact ⟨by first | rfl | (simp [errW_none, errW_some] <;> rfl) | (simp [*, errW_none, errW_some] <;> rfl), by repeat (first | (with_reducible first | exact HB.out | apply below_alloc | apply pw_below_drewN | apply below_drew1 | refine below_set ?_ GE162.out | refine below_set ?_ GE172.out) | exact HB.out)⟩
                    · replace c83 := Bool.eq_false_iff.mpr c83
                      subst c83
                      have H1 : (some false) = some r := by rw [if_neg (show ¬ (false = true) by decide)] at H; exact H
                      clear H
                      have H := H1
                      clear H1
                      obtain rfl := Option.some.inj H
                      go_wp2_with (first | ((with_reducible refine gate_callee (f := 27) rfl ?_); refine goesL_ (some 129) rfl rfl Try.func27 (by kernel_rfl) rfl #[] rfl (by (try simp only [List.map_toArray, List.map_cons, List.map_nil]); first | done | rfl | (simp only [List.length_drop, List.length_take]; rfl)) ?_; (with_reducible refine (tarnlaw11_awake.calls k3  false _ A82.out).mono ?_); rintro e w176 ⟨rfl, hb⟩; refine ⟨_, rfl, ?_⟩; have n0_ := Aside0.mk (Kd.R_below (by (with_reducible repeat (first | apply Kd.R_alloc | apply Kd.R_drewN | apply Kd.R_drew)); exact HO_11.out) hb); have n1_ := Aside0.mk (Kd.R_below (by (with_reducible repeat (first | apply Kd.R_alloc | apply Kd.R_drewN | apply Kd.R_drew)); exact HO_173003.out) hb); have n2_ := Aside0.mk (Kd.R_below (by (with_reducible repeat (first | apply Kd.R_alloc | apply Kd.R_drewN | apply Kd.R_drew)); exact HO_173004.out) hb); have n3_ := Aside0.mk (blk_below (g := gb162) (o := .cells #[.int .i64 a0_0, .int .i64 a0_1, .int .i64 a0_2, .slice A0_3 l0_3.length c0_3, .slice A0_4 l0_4.length c0_4] 31 (0, 0)) (by (with_reducible repeat (first | refine blk_drewN ?_ _ | refine blk_drew ?_ | refine blk_alloc ?_ _)); exact BK162.out) hb); have n4_ := Aside0.mk (blk_below (g := gb172) (o := .cells #[.int .i64 t163, .int .i64 t164, .int .i64 t165, .slice Ao10 t166.length co10, .slice Ao11 t169.length co11] 31 (0, 0)) (by (with_reducible repeat (first | refine blk_drewN ?_ _ | refine blk_drew ?_ | refine blk_alloc ?_ _)); exact BK172.out) hb); have n5_ := Aside0.mk (below_step (by repeat (first | (with_reducible first | exact HB.out | apply below_alloc | apply pw_below_drewN | apply below_drew1 | refine below_set ?_ GE162.out | refine below_set ?_ GE172.out) | exact HB.out)) hb); clear HO_11; clear HO_173003; clear HO_173004; clear BK162; clear BK172; clear HB; have HO_11 := n0_; have HO_173003 := n1_; have HO_173004 := n2_; have BK162 := n3_; have BK172 := n4_; have HB := n5_; clear n0_ n1_ n2_ n3_ n4_ n5_; (try clear hb); (try clear hb2); (try clear hk); (try clear hi)))
                      go_ret
                      exact ⟨by first | rfl | (simp [errW_none, errW_some] <;> rfl) | (simp [*, errW_none, errW_some] <;> rfl), by repeat (first | (with_reducible first | exact HB.out | apply below_alloc | apply pw_below_drewN | apply below_drew1 | refine below_set ?_ GE162.out | refine below_set ?_ GE172.out) | exact HB.out)⟩

/-- THE ONE PURE STATEMENT of tarnlaw11_ConfNodes: yours. -/
def tarnlaw11_ConfNodes.Pure : Prop := ∀ (a0_0 : Int) (a0_1 : Int) (a0_2 : Int) (l0_3 : List Int) (l0_4 : List Int) (a1 : Int), Wf31 (⟨a0_0, a0_1, a0_2, l0_3, l0_4⟩ : S31) → (Lit.int .i64 a1).wf = true → ∃ k, tarnlaw11_ConfNodes.f k a0_0 a0_1 a0_2 l0_3 l0_4 a1 = some true
theorem tarnlaw11_ConfNodes.walk (P : tarnlaw11_ConfNodes.Pure) (a0_0 : Int) (a0_1 : Int) (a0_2 : Int) (A0_3 : Option Addr) (c0_3 : Nat) (l0_3 : List Int) (A0_4 : Option Addr) (c0_4 : Nat) (l0_4 : List Int) (a1 : Int) (w : World) (w0 : Wf31 (⟨a0_0, a0_1, a0_2, l0_3, l0_4⟩ : S31)) (hr0_3 : Kd.C (Kd.int .i64) w A0_3 l0_3.length l0_3) (hc0_3 : l0_3.length ≤ c0_3) (hr0_4 : Kd.C (Kd.int .i64) w A0_4 l0_4.length l0_4) (hc0_4 : l0_4.length ≤ c0_4) (w1 : (Lit.int .i64 a1).wf = true) :
    Calls Try.prog 6 #[.agg #[.int .i64 a0_0, .int .i64 a0_1, .int .i64 a0_2, .slice A0_3 l0_3.length c0_3, .slice A0_4 l0_4.length c0_4], .int .i64 a1] w fun e w' => e = .returned (.bool true) ∧ Below w.heap.size w w' := by
  obtain ⟨k, h⟩ := P a0_0 a0_1 a0_2 l0_3 l0_4 a1 w0 w1
  refine (tarnlaw11_ConfNodes.calls k a0_0 a0_1 a0_2 A0_3 c0_3 l0_3 A0_4 c0_4 l0_4 a1 true w hr0_3 hc0_3 hr0_4 hc0_4 h).mono ?_
  rintro e w' ⟨rfl, hd⟩
  exact ⟨rfl, hd⟩

end Go.Proofs.Ytjjcfipnainpiab.PNodes
