-- Printed by wip/xprint of this session, over the kit's print: Lean functions for Go functions, and their contracts.
import Derived.Test.YtfblmfefcgmpfacPHexax0
import Derived.Test.YtfblmfefcgmpfacPHexax2
import Derived.Test.YtfblmfefcgmpfacPHexax3
import Derived.Test.YtfblmfefcgmpfacPHexax7
namespace Go.Proofs.Ytfblmfefcgmpfac.PHexa
open Go.RowKit Go.Proofs.YtfblmfefcgmpfacW.PrintWords Go.Proofs.YtfblmfefcgmpfacW.PrintLast Go.Proofs.YtfblmfefcgmpfacW.PrintMore Go.Proofs.Ytfblmfefcgmpfac.X
attribute [local go_sem] max2_int min2_int max_two min_two max_three min_three max_four min_four   -- for this text's walks alone
set_option linter.unusedVariables false
set_option linter.unusedSimpArgs false

/-! ### tarnlaw44_HexaBlocks: function 5 -/
def tarnlaw44_HexaBlocks.j0 : Nat → ByteArray → Option (Bool)
  | 0, _ => none
  | k + 1, x5 => (hexa_Block.f k x5).bind fun t156 => ((hexa_Long.f k t156).bind fun bt157 => ((tarnlaw44_awake.f k).bind fun t160 => (if t160 = true then ((hexa_Block.f k x5).bind fun t161 => ((tarnref44_Block.f k x5).bind fun t162 => (if t161.toList = t162.toList then (if bt157.2.2 = 0 then (some (bt157.1.toList == x5.toList)) else (some false)) else (some false)))) else (some false))))
def tarnlaw44_HexaBlocks.f (k : Nat) (a0 : ByteArray) (a1 : Int) : Option (Bool) := if 0 ≤ (mn (a0.size : Int) 40) then (if (mn (a0.size : Int) 40) ≤ (a0.size : Int) then ((tarnlaw08_Block.f k (a0.extract 0 ((mn (a0.size : Int) 40) : Int).toNat)).bind fun t154 => (if (a0.size : Int) > 0 then (if 0 ≤ (Go.bits .and .i64 a1 31) then (if (Go.bits .and .i64 a1 31) ≤ (t154.size : Int) then (if 0 ≤ 1 then (if 1 ≤ (a0.size : Int) then ((tarnlaw08_Block.f k (a0.extract 0 1)).bind fun t155 => (if (Go.bits .and .i64 a1 31) ≤ (t155.size : Int) then (if (t154.extract 0 ((Go.bits .and .i64 a1 31) : Int).toNat).size + (t155.extract ((Go.bits .and .i64 a1 31) : Int).toNat t155.size).size ≤ 9223372036854775807 then (tarnlaw44_HexaBlocks.j0 k ((t154.extract 0 ((Go.bits .and .i64 a1 31) : Int).toNat) ++ (t155.extract ((Go.bits .and .i64 a1 31) : Int).toNat t155.size))) else (none)) else (none))) else (none)) else (none)) else (none)) else (none)) else (tarnlaw44_HexaBlocks.j0 k t154))) else (none)) else (none)
theorem tarnlaw44_HexaBlocks.mono_l : ∀ k, (∀ y0, LeO (tarnlaw44_HexaBlocks.j0 k y0) (tarnlaw44_HexaBlocks.j0 (k + 1) y0))
  | 0 => fun _ r h => by simp [tarnlaw44_HexaBlocks.j0] at h
  | k + 1 => by
    have ih0 := tarnlaw44_HexaBlocks.mono_l k
    · intro y0
      unfold tarnlaw44_HexaBlocks.j0
      repeat' first
      | (with_reducible exact ih0 _)
      | (with_reducible exact hexa_Block.mono _ _)
      | (with_reducible exact hexa_Long.mono _ _)
      | (with_reducible exact tarnlaw08_Block.mono _ _)
      | (with_reducible exact tarnlaw44_awake.mono _)
      | (with_reducible exact tarnref44_Block.mono _ _)
      | (with_reducible exact LeO.refl _)
      | (with_reducible exact LeO.none _)
      | (with_reducible refine LeO.ite ?_ ?_)
      | (with_reducible refine LeO.bind ?_ (fun _ => ?_))
      | exact ih0 _
      | exact hexa_Block.mono _ _
      | exact hexa_Long.mono _ _
      | exact tarnlaw08_Block.mono _ _
      | exact tarnlaw44_awake.mono _
      | exact tarnref44_Block.mono _ _
      | exact LeO.none _
      | refine LeO.ite ?_ ?_
      | refine LeO.bind ?_ (fun _ => ?_)
theorem tarnlaw44_HexaBlocks.mono : ∀ a0 a1 k, LeO (tarnlaw44_HexaBlocks.f k a0 a1) (tarnlaw44_HexaBlocks.f (k + 1) a0 a1) := by
  intro a0 a1 k
  have ih0 := tarnlaw44_HexaBlocks.mono_l k
  unfold tarnlaw44_HexaBlocks.f
  repeat' first
      | (with_reducible exact ih0 _)
      | (with_reducible exact hexa_Block.mono _ _)
      | (with_reducible exact hexa_Long.mono _ _)
      | (with_reducible exact tarnlaw08_Block.mono _ _)
      | (with_reducible exact tarnlaw44_awake.mono _)
      | (with_reducible exact tarnref44_Block.mono _ _)
      | (with_reducible exact LeO.refl _)
      | (with_reducible exact LeO.none _)
      | (with_reducible refine LeO.ite ?_ ?_)
      | (with_reducible refine LeO.bind ?_ (fun _ => ?_))
      | exact ih0 _
      | exact hexa_Block.mono _ _
      | exact hexa_Long.mono _ _
      | exact tarnlaw08_Block.mono _ _
      | exact tarnlaw44_awake.mono _
      | exact tarnref44_Block.mono _ _
      | exact LeO.none _
      | refine LeO.ite ?_ ?_
      | refine LeO.bind ?_ (fun _ => ?_)
def tarnlaw44_HexaBlocks.T4 : Bool × List (List Nat × List Nat) := (true, [([], []), ([], []), ([0, 1], [0, 1]), ([], []), ([3], [3]), ([4], [4]), ([], []), ([5, 6], [5, 6]), ([2, 7], [2, 7]), ([8, 5, 0, 1, 2, 3, 4, 5, 6, 7, 8], [0, 8])])
def tarnlaw44_HexaBlocks.B4 : List Nat := [0, 0, 3, 0, 8, 24, 0, 120, 255, 511]
theorem tarnlaw44_HexaBlocks.tab4 : rtab .any (opsOf Try.f5 4) = tarnlaw44_HexaBlocks.T4 := by kernel_rfl
theorem tarnlaw44_HexaBlocks.bits4 : waitsOk tarnlaw44_HexaBlocks.T4.2 tarnlaw44_HexaBlocks.B4 = true := by kernel_rfl
set_option maxHeartbeats 8000000 in
set_option maxRecDepth 100000 in
theorem tarnlaw44_HexaBlocks.calls (k : Nat) (a0 : ByteArray) (a1 : Int) (r : Bool) (w : World) (h : tarnlaw44_HexaBlocks.f k a0 a1 = some r) :
    Calls Try.prog 5 #[.string a0, .int .i64 a1] w fun e w' => e = .returned (.bool r) ∧ Below w.heap.size w w' := by
  have HB := Aside0.mk (Below.refl w.heap.size w)
  have H : (if 0 ≤ (mn (a0.size : Int) 40) then (if (mn (a0.size : Int) 40) ≤ (a0.size : Int) then ((tarnlaw08_Block.f k (a0.extract 0 ((mn (a0.size : Int) 40) : Int).toNat)).bind fun t154 => (if (a0.size : Int) > 0 then (if 0 ≤ (Go.bits .and .i64 a1 31) then (if (Go.bits .and .i64 a1 31) ≤ (t154.size : Int) then (if 0 ≤ 1 then (if 1 ≤ (a0.size : Int) then ((tarnlaw08_Block.f k (a0.extract 0 1)).bind fun t155 => (if (Go.bits .and .i64 a1 31) ≤ (t155.size : Int) then (if (t154.extract 0 ((Go.bits .and .i64 a1 31) : Int).toNat).size + (t155.extract ((Go.bits .and .i64 a1 31) : Int).toNat t155.size).size ≤ 9223372036854775807 then (tarnlaw44_HexaBlocks.j0 k ((t154.extract 0 ((Go.bits .and .i64 a1 31) : Int).toNat) ++ (t155.extract ((Go.bits .and .i64 a1 31) : Int).toNat t155.size))) else (none)) else (none))) else (none)) else (none)) else (none)) else (none)) else (tarnlaw44_HexaBlocks.j0 k t154))) else (none)) else (none)) = some r := h
  clear h
  obtain ⟨ji3, hji3⟩ : ∃ j_ : Int, (mn (a0.size : Int) 40) = j_ := ⟨_, rfl⟩
  replace H : (if 0 ≤ (ji3) then (if (ji3) ≤ (a0.size : Int) then ((tarnlaw08_Block.f k (a0.extract 0 ((ji3) : Int).toNat)).bind fun t154 => (if (a0.size : Int) > 0 then (if 0 ≤ (Go.bits .and .i64 a1 31) then (if (Go.bits .and .i64 a1 31) ≤ (t154.size : Int) then (if 0 ≤ 1 then (if 1 ≤ (a0.size : Int) then ((tarnlaw08_Block.f k (a0.extract 0 1)).bind fun t155 => (if (Go.bits .and .i64 a1 31) ≤ (t155.size : Int) then (if (t154.extract 0 ((Go.bits .and .i64 a1 31) : Int).toNat).size + (t155.extract ((Go.bits .and .i64 a1 31) : Int).toNat t155.size).size ≤ 9223372036854775807 then (tarnlaw44_HexaBlocks.j0 k ((t154.extract 0 ((Go.bits .and .i64 a1 31) : Int).toNat) ++ (t155.extract ((Go.bits .and .i64 a1 31) : Int).toNat t155.size))) else (none)) else (none))) else (none)) else (none)) else (none)) else (none)) else (tarnlaw44_HexaBlocks.j0 k t154))) else (none)) else (none)) = some r := by first | (rw [hji3] at H; exact H) | (simp only [hji3] at H ⊢; exact H)
  (try (have hji3h : ji3 ≤ 40 := by (rw [← hji3]; unfold mn; (repeat' split) <;> omega)))
  (try (have hji3g : ji3 ≤ 64 := by omega))
  (try (have hji3l : 0 ≤ ji3 := by (rw [← hji3]; unfold mn; (repeat' split) <;> omega)))
  (try (have hji3m : 0 ≤ ji3 := by omega))
  have hji3_ : (if 40 < (a0.size : Int) then 40 else (a0.size : Int)) = ji3 := hji3
  by_cases c4 : 0 ≤ (ji3)
  · rw [if_pos c4] at H
    have c4b0 := eq_true c4
    have c4b1 : decide (0 ≤ (ji3)) = true := decide_eq_true c4
    clear c4
    by_cases c5 : (ji3) ≤ (a0.size : Int)
    · rw [if_pos c5] at H
      have c5b0 := eq_true c5
      have c5b1 : decide ((ji3) ≤ (a0.size : Int)) = true := decide_eq_true c5
      clear c5
      replace H := Option.bind_eq_some_iff.mp H
      obtain ⟨t154, A60, H⟩ := H
      replace H : (if (a0.size : Int) > 0 then (if 0 ≤ (Go.bits .and .i64 a1 31) then (if (Go.bits .and .i64 a1 31) ≤ (t154.size : Int) then (if 0 ≤ 1 then (if 1 ≤ (a0.size : Int) then ((tarnlaw08_Block.f k (a0.extract 0 1)).bind fun t155 => (if (Go.bits .and .i64 a1 31) ≤ (t155.size : Int) then (if (t154.extract 0 ((Go.bits .and .i64 a1 31) : Int).toNat).size + (t155.extract ((Go.bits .and .i64 a1 31) : Int).toNat t155.size).size ≤ 9223372036854775807 then (tarnlaw44_HexaBlocks.j0 k ((t154.extract 0 ((Go.bits .and .i64 a1 31) : Int).toNat) ++ (t155.extract ((Go.bits .and .i64 a1 31) : Int).toNat t155.size))) else (none)) else (none))) else (none)) else (none)) else (none)) else (none)) else (tarnlaw44_HexaBlocks.j0 k t154)) = some r := H
      have A6 := Aside0.mk A60
      clear A60
      have HC7 := Aside0.mk H
      clear H
      go_enter Try.func5, Try.ntmps5
      go_upto_if 20 with (first | ((with_reducible refine gate_callee (f := 13) rfl ?_); refine goesL_ (some 15) rfl rfl Try.func13 (by kernel_rfl) rfl #[.string (a0.extract 0 ((ji3) : Int).toNat)] rfl (by (try simp only [List.map_toArray, List.map_cons, List.map_nil]); first | done | (simp only [hji3]; rfl) | rfl | (simp only [List.length_drop, List.length_take]; rfl)) ?_; (with_reducible refine (tarnlaw08_Block.calls k (a0.extract 0 ((ji3) : Int).toNat) t154 _ A6.out).mono ?_); rintro e w8 ⟨rfl, hb⟩; refine ⟨_, rfl, ?_⟩; have n0_ := Aside0.mk (below_step (by repeat (first | (with_reducible first | exact HB.out | apply below_alloc | apply pw_below_drewN | apply below_drew1) | exact HB.out)) hb); clear HB; have HB := n0_; clear n0_; (try clear hb); (try clear hb2); (try clear hk); (try clear hi)))
      (try simp only [Act.put, List.setIfInBounds_toArray, List.set_cons_zero, List.set_cons_succ])
      go_cut [5] (fun v5 wc => ∃ (kq : Nat) (x5_6 : ByteArray), v5 = .string x5_6 ∧ Aside0 (tarnlaw44_HexaBlocks.j0 kq x5_6 = some r) ∧ Aside0 (kq ≤ k) ∧ Aside0 (Below w.heap.size w wc))
      case first =>
        have H := HC7.out
        clear HC7
        by_cases c9 : (a0.size : Int) > 0
        · rw [if_pos c9] at H
          have c9b0 : decide (0 < (a0.size : Int)) = true := decide_eq_true c9
          have c9b1 : decide (0 < a0.size) = true := decide_eq_true (by omega)
          clear c9
          (first | rw [c9b0] | (simp only [i64_w, i32_w]; rw [c9b0]) | rw [c9b1] | skip)
          by_cases c10 : 0 ≤ (Go.bits .and .i64 a1 31)
          · rw [if_pos c10] at H
            have c10b0 := eq_true c10
            have c10b1 : decide (0 ≤ (Go.bits .and .i64 a1 31)) = true := decide_eq_true c10
            clear c10
            by_cases c11 : (Go.bits .and .i64 a1 31) ≤ (t154.size : Int)
            · rw [if_pos c11] at H
              have c11b0 := eq_true c11
              have c11b1 : decide ((Go.bits .and .i64 a1 31) ≤ (t154.size : Int)) = true := decide_eq_true c11
              clear c11
              by_cases c12 : 0 ≤ 1
              · rw [if_pos c12] at H
                have c12b0 := eq_true c12
                have c12b1 : decide (0 ≤ 1) = true := decide_eq_true c12
                clear c12
                by_cases c13 : 1 ≤ (a0.size : Int)
                · rw [if_pos c13] at H
                  have c13b0 := eq_true c13
                  have c13b1 : decide (1 ≤ (a0.size : Int)) = true := decide_eq_true c13
                  clear c13
                  replace H := Option.bind_eq_some_iff.mp H
                  obtain ⟨t155, A140, H⟩ := H
                  replace H : (if (Go.bits .and .i64 a1 31) ≤ (t155.size : Int) then (if (t154.extract 0 ((Go.bits .and .i64 a1 31) : Int).toNat).size + (t155.extract ((Go.bits .and .i64 a1 31) : Int).toNat t155.size).size ≤ 9223372036854775807 then (tarnlaw44_HexaBlocks.j0 k ((t154.extract 0 ((Go.bits .and .i64 a1 31) : Int).toNat) ++ (t155.extract ((Go.bits .and .i64 a1 31) : Int).toNat t155.size))) else (none)) else (none)) = some r := H
                  have A14 := Aside0.mk A140
                  clear A140
                  have c15b0 := eq_true (of_decide_eq_true (by first | (with_reducible assumption) | assumption) : 0 ≤ (Go.bits .and .i64 a1 31))
                  by_cases c16 : (Go.bits .and .i64 a1 31) ≤ (t155.size : Int)
                  · rw [if_pos c16] at H
                    have c16b0 := eq_true c16
                    have c16b1 : decide ((Go.bits .and .i64 a1 31) ≤ (t155.size : Int)) = true := decide_eq_true c16
                    clear c16
                    by_cases c17 : (t154.extract 0 ((Go.bits .and .i64 a1 31) : Int).toNat).size + (t155.extract ((Go.bits .and .i64 a1 31) : Int).toNat t155.size).size ≤ 9223372036854775807
                    · rw [if_pos c17] at H
                      have c17b0 := eq_true c17
                      have c17b1 : decide ((t154.extract 0 ((Go.bits .and .i64 a1 31) : Int).toNat).size + (t155.extract ((Go.bits .and .i64 a1 31) : Int).toNat t155.size).size ≤ 9223372036854775807) = true := decide_eq_true c17
                      try have c17b2 : (9223372036854775807 < (t154.extract 0 ((Go.bits .and .i64 a1 31) : Int).toNat).size + (t155.extract ((Go.bits .and .i64 a1 31) : Int).toNat t155.size).size) = False := eq_false (Nat.not_lt.2 c17)
                      try have c17b3 : ∀ W_ : World, (Op.stringOp .add (t154.extract 0 ((Go.bits .and .i64 a1 31) : Int).toNat) (t155.extract ((Go.bits .and .i64 a1 31) : Int).toNat t155.size)).run Try.prog W_ = .ok (.string ((t154.extract 0 ((Go.bits .and .i64 a1 31) : Int).toNat) ++ (t155.extract ((Go.bits .and .i64 a1 31) : Int).toNat t155.size))) W_ := fun W_ => run_string_add_sum W_ _ _ (by first | exact c17 | simpa using c17)
                      have H' := Aside0.mk H
                      clear H
                      try go_wp2
                      have n0_ := Aside0.mk (below_drew1 HB.out)
                      clear HB
                      have HB := n0_
                      clear n0_
                      refine start_ (n := 10) (S := fun w' => True) (ds := []) #[false, false, false, false, false, false, false, false, false, false] (by kernel_rfl) rfl rfl trivial (fun hHeld => ?_); refine with_tabW tarnlaw44_HexaBlocks.tab4 tarnlaw44_HexaBlocks.bits4 (fun HT_ HW_ => ?_)
                      generalize w8.drew = w18 at HB hHeld ⊢
                      refine pure_ (i := 0) (N := some 21) (v := ?_) (a' := ?_) #[true, false, false, false, false, false, false, false, false, false] rfl rfl (any_of HT_.out (by kernel_rfl)) (fun _ _ _ h => h) (Or.inl ⟨by rfl, ?_⟩) ?_ ?_
                      rotate_left
                      · first | (intro w'; go_simp; with_reducible rfl) | (intro w'; refine Eq.trans (add_step (by rfl) (by rfl) (by rfl) (by assumption) w') ?_; with_reducible rfl)
                      rotate_left
                      · simp only [Act.put, List.setIfInBounds_toArray, List.set_cons_zero, List.set_cons_succ, i64_w, i32_w]
                        rfl
                      refine pure_ (i := 1) (N := some 22) (v := ?_) (a' := ?_) #[true, true, false, false, false, false, false, false, false, false] rfl rfl (any_of HT_.out (by kernel_rfl)) (fun _ _ _ h => h) (Or.inl ⟨by rfl, ?_⟩) ?_ ?_
                      rotate_left
                      · first | (intro w'; go_simp; with_reducible rfl) | (intro w'; refine Eq.trans (add_step (by rfl) (by rfl) (by rfl) (by assumption) w') ?_; with_reducible rfl)
                      rotate_left
                      · simp only [Act.put, List.setIfInBounds_toArray, List.set_cons_zero, List.set_cons_succ, i64_w, i32_w]
                        rfl
                      refine pure_ (i := 2) (N := some 23) (v := ?_) (a' := ?_) #[true, true, true, false, false, false, false, false, false, false] rfl rfl (any_of HT_.out (by kernel_rfl)) (fun _ _ _ h => h) (Or.inl ⟨by rfl, ?_⟩) ?_ ?_
                      rotate_left
                      · first | (intro w'; go_simp; with_reducible rfl) | (intro w'; refine Eq.trans (add_step (by rfl) (by rfl) (by rfl) (by assumption) w') ?_; with_reducible rfl)
                      rotate_left
                      · simp only [Act.put, List.setIfInBounds_toArray, List.set_cons_zero, List.set_cons_succ, i64_w, i32_w]
                        rfl
                      refine pure_ (i := 3) (N := some 24) (v := ?_) (a' := ?_) #[true, true, true, true, false, false, false, false, false, false] rfl rfl (any_of HT_.out (by kernel_rfl)) (fun _ _ _ h => h) (Or.inl ⟨by rfl, ?_⟩) ?_ ?_
                      rotate_left
                      · first | (intro w'; go_simp; with_reducible rfl) | (intro w'; refine Eq.trans (add_step (by rfl) (by rfl) (by rfl) (by assumption) w') ?_; with_reducible rfl)
                      rotate_left
                      · simp only [Act.put, List.setIfInBounds_toArray, List.set_cons_zero, List.set_cons_succ, i64_w, i32_w]
                        rfl
                      refine pure_ (i := 4) (N := some 25) (v := ?_) (a' := ?_) #[true, true, true, true, true, false, false, false, false, false] rfl rfl (any_of HT_.out (by kernel_rfl)) (fun _ _ _ h => h) (Or.inl ⟨by rfl, ?_⟩) ?_ ?_
                      rotate_left
                      · first | (intro w'; go_simp; with_reducible rfl) | (intro w'; refine Eq.trans (add_step (by rfl) (by rfl) (by rfl) (by assumption) w') ?_; with_reducible rfl)
                      rotate_left
                      · simp only [Act.put, List.setIfInBounds_toArray, List.set_cons_zero, List.set_cons_succ, i64_w, i32_w]
                        rfl
                      refine pure_ (i := 6) (N := some 27) (v := ?_) (a' := ?_) #[true, true, true, true, true, false, true, false, false, false] rfl rfl (any_of HT_.out (by kernel_rfl)) (fun _ _ _ h => h) (Or.inl ⟨by rfl, ?_⟩) ?_ ?_
                      rotate_left
                      · first | (intro w'; go_simp; with_reducible rfl) | (intro w'; refine Eq.trans (add_step (by rfl) (by rfl) (by rfl) (by assumption) w') ?_; with_reducible rfl)
                      rotate_left
                      · simp only [Act.put, List.setIfInBounds_toArray, List.set_cons_zero, List.set_cons_succ, i64_w, i32_w]
                        rfl
                      refine one_ (i := 5) (N := some 26) #[true, true, true, true, true, true, true, false, false, false] rfl rfl (one_of HT_.out (by kernel_rfl)) (by decide) (fun K hK => ?_)
                      refine goes_ Try.func13 (by kernel_rfl) rfl #[.string (a0.extract 0 1)] (by rfl) rfl rfl (by (try simp only [List.map_toArray, List.map_cons, List.map_nil]); first | done | rfl | (simp only [List.length_drop, List.length_take]; rfl)) ?_
                      with_reducible refine (tarnlaw08_Block.calls k (a0.extract 0 1) t155 _ A14.out).mono ?_
                      rintro e w19 ⟨rfl, hb⟩
                      refine ⟨_, rfl, ?_⟩
                      have n0_ := Aside0.mk (below_step (by repeat (first | (with_reducible first | exact HB.out | apply below_alloc | apply pw_below_drewN | apply below_drew1) | exact HB.out)) hb)
                      clear HB
                      have HB := n0_
                      clear n0_
                      (try clear hb)
                      (try clear hb2)
                      (try clear hk)
                      (try clear hi)
                      refine hK.out _ _ trivial (fun hHeld => ?_)
                      clear hK K
                      refine norm_ (a' := ?_) ?_ ?_
                      rotate_left
                      · show Act.put _ (some 26) _ = _
                        simp only [Act.put, List.setIfInBounds_toArray, List.set_cons_zero, List.set_cons_succ, i64_w, i32_w]
                        rfl
                      refine pure_ (i := 7) (N := some 28) (v := ?_) (a' := ?_) #[true, true, true, true, true, true, true, true, false, false] rfl rfl (any_of HT_.out (by kernel_rfl)) (fun _ _ _ h => h) (Or.inl ⟨by rfl, ?_⟩) ?_ ?_
                      rotate_left
                      · first | (intro w'; go_simp; with_reducible rfl) | (intro w'; refine Eq.trans (add_step (by rfl) (by rfl) (by rfl) (by assumption) w') ?_; with_reducible rfl)
                      rotate_left
                      · simp only [Act.put, List.setIfInBounds_toArray, List.set_cons_zero, List.set_cons_succ, i64_w, i32_w]
                        rfl
                      refine pure_ (i := 8) (N := some 29) (v := ?_) (a' := ?_) #[true, true, true, true, true, true, true, true, true, false] rfl rfl (any_of HT_.out (by kernel_rfl)) (fun _ _ _ h => h) (Or.inl ⟨by rfl, ?_⟩) ?_ ?_
                      rotate_left
                      · first | (intro w'; go_simp; with_reducible rfl) | (intro w'; refine Eq.trans (add_step (by rfl) (by rfl) (by rfl) (by assumption) w') ?_; with_reducible rfl)
                      rotate_left
                      · simp only [Act.put, List.setIfInBounds_toArray, List.set_cons_zero, List.set_cons_succ, i64_w, i32_w]
                        rfl
                      refine pure_ (i := 9) (N := some 5) (v := ?_) (a' := ?_) #[true, true, true, true, true, true, true, true, true, true] rfl rfl (any_of HT_.out (by kernel_rfl)) (fun _ _ _ h => h) (Or.inl ⟨by rfl, ?_⟩) ?_ ?_
                      rotate_left
                      · first | (intro w'; go_simp; with_reducible rfl) | (intro w'; refine Eq.trans (add_step (by rfl) (by rfl) (by rfl) (by assumption) w') ?_; with_reducible rfl)
                      rotate_left
                      · simp only [Act.put, List.setIfInBounds_toArray, List.set_cons_zero, List.set_cons_succ, i64_w, i32_w]
                        rfl
                      refine done_ (done_of HT_.out (by kernel_rfl)) ?_
                      try go_wp2
                      go_meet
                      case rel => exact ⟨_, ((t154.extract 0 ((Go.bits .and .i64 a1 31) : Int).toNat) ++ (t155.extract ((Go.bits .and .i64 a1 31) : Int).toNat t155.size)), (by first | rfl | (simp; done) | (simp [*]; done)), H', ⟨by first | omega | exact Nat.le_refl _⟩, ⟨by repeat (first | (with_reducible first | exact HB.out | apply below_alloc | apply pw_below_drewN | apply below_drew1) | exact HB.out)⟩⟩
                    · rw [if_neg c17] at H
                      exact absurd H (by simp)
                  · rw [if_neg c16] at H
                    exact absurd H (by simp)
                · rw [if_neg c13] at H
                  exact absurd H (by simp)
              · rw [if_neg c12] at H
                exact absurd H (by simp)
            · rw [if_neg c11] at H
              exact absurd H (by simp)
          · rw [if_neg c10] at H
            exact absurd H (by simp)
        · rw [if_neg c9] at H
          have c9b0 : decide (0 < (a0.size : Int)) = false := decide_eq_false c9
          have c9b1 : decide (0 < a0.size) = false := decide_eq_false (by omega)
          clear c9
          (first | rw [c9b0] | (simp only [i64_w, i32_w]; rw [c9b0]) | rw [c9b1] | skip)
          have H' := Aside0.mk H
          clear H
          go_wp2
          go_meet
          case rel => exact ⟨_, (t154), (by first | rfl | (simp; done) | (simp [*]; done)), H', ⟨by first | omega | exact Nat.le_refl _⟩, ⟨by repeat (first | (with_reducible first | exact HB.out | apply below_alloc | apply pw_below_drewN | apply below_drew1) | exact HB.out)⟩⟩
      case rest =>
        clear HC7
        try clear c1
        try clear p2
        try clear c4
        try clear c4b0
        try clear c4b1
        try clear c5
        try clear c5b0
        try clear c5b1
        try clear c9
        try clear c9b0
        try clear c9b1
        try clear c10
        try clear c10b0
        try clear c10b1
        try clear c11
        try clear c11b0
        try clear c11b1
        try clear c12
        try clear c12b0
        try clear c12b1
        try clear c13
        try clear c13b0
        try clear c13b1
        try clear c15
        try clear c15b0
        try clear c16
        try clear c16b0
        try clear c16b1
        try clear c17
        try clear c17b0
        try clear c17b1
        try clear c17b2
        obtain ⟨kq, x5_6, rfl, HA, HJ6, HB⟩ := hcut
        cases kq with
        | zero => exact absurd HA.out (by simp [tarnlaw44_HexaBlocks.j0])
        | succ kj6 =>
          have H := HA.out
          clear HA
          simp only [tarnlaw44_HexaBlocks.j0] at H
          replace H := Option.bind_eq_some_iff.mp H
          obtain ⟨t156, A200, H⟩ := H
          replace H : ((hexa_Long.f kj6 t156).bind fun bt157 => ((tarnlaw44_awake.f kj6).bind fun t160 => (if t160 = true then ((hexa_Block.f kj6 x5_6).bind fun t161 => ((tarnref44_Block.f kj6 x5_6).bind fun t162 => (if t161.toList = t162.toList then (if bt157.2.2 = 0 then (some (bt157.1.toList == x5_6.toList)) else (some false)) else (some false)))) else (some false)))) = some r := H
          have A20 := Aside0.mk A200
          clear A200
          replace H := Option.bind_eq_some_iff.mp H
          obtain ⟨⟨t157, t158, t159⟩, A210, H⟩ := H
          replace H : ((tarnlaw44_awake.f kj6).bind fun t160 => (if t160 = true then ((hexa_Block.f kj6 x5_6).bind fun t161 => ((tarnref44_Block.f kj6 x5_6).bind fun t162 => (if t161.toList = t162.toList then (if t159 = 0 then (some (t157.toList == x5_6.toList)) else (some false)) else (some false)))) else (some false))) = some r := H
          have A21 := Aside0.mk A210
          clear A210
          replace H := Option.bind_eq_some_iff.mp H
          obtain ⟨t160, A220, H⟩ := H
          replace H : (if t160 = true then ((hexa_Block.f kj6 x5_6).bind fun t161 => ((tarnref44_Block.f kj6 x5_6).bind fun t162 => (if t161.toList = t162.toList then (if t159 = 0 then (some (t157.toList == x5_6.toList)) else (some false)) else (some false)))) else (some false)) = some r := H
          have A22 := Aside0.mk A220
          clear A220
          by_cases c23 : t160 = true
          · subst c23
            have H1 : ((hexa_Block.f kj6 x5_6).bind fun t161 => ((tarnref44_Block.f kj6 x5_6).bind fun t162 => (if t161.toList = t162.toList then (if t159 = 0 then (some (t157.toList == x5_6.toList)) else (some false)) else (some false)))) = some r := by rw [if_pos rfl] at H; exact H
            clear H
            have H := H1
            clear H1
            replace H := Option.bind_eq_some_iff.mp H
            obtain ⟨t161, A240, H⟩ := H
            replace H : ((tarnref44_Block.f kj6 x5_6).bind fun t162 => (if t161.toList = t162.toList then (if t159 = 0 then (some (t157.toList == x5_6.toList)) else (some false)) else (some false))) = some r := H
            have A24 := Aside0.mk A240
            clear A240
            replace H := Option.bind_eq_some_iff.mp H
            obtain ⟨t162, A250, H⟩ := H
            replace H : (if t161.toList = t162.toList then (if t159 = 0 then (some (t157.toList == x5_6.toList)) else (some false)) else (some false)) = some r := H
            have A25 := Aside0.mk A250
            clear A250
            by_cases c26 : t161.toList = t162.toList
            · rw [if_pos c26] at H
              have c26b0 : (t161.toList == t162.toList) = true := beq_iff_eq.mpr c26
              have c26b1 : (t161.toList != t162.toList) = false := bne_eq_false_iff_eq.mpr c26
              clear c26
              by_cases c27 : t159 = 0
              · rw [if_pos c27] at H
                have c27b0 : (t159 == 0) = true := beq_iff_eq.mpr c27
                have c27b1 : (t159 != 0) = false := bne_eq_false_iff_eq.mpr c27
                clear c27
                obtain rfl := Option.some.inj H
                go_wp2_with (first | ((with_reducible refine gate_callee (f := 15) rfl ?_); refine goesL_ (some 32) rfl rfl Try.func15 (by kernel_rfl) rfl #[.string x5_6] rfl (by (try simp only [List.map_toArray, List.map_cons, List.map_nil]); first | done | rfl | (simp only [List.length_drop, List.length_take]; rfl)) ?_; (with_reducible refine (hexa_Block.calls kj6 x5_6 t156 _ A20.out).mono ?_); rintro e w28 ⟨rfl, hb⟩; refine ⟨_, rfl, ?_⟩; have n0_ := Aside0.mk (below_step (by repeat (first | (with_reducible first | exact HB.out | apply below_alloc | apply pw_below_drewN | apply below_drew1) | exact HB.out)) hb); clear HB; have HB := n0_; clear n0_; (try clear hb); (try clear hb2); (try clear hk); (try clear hi)) | ((with_reducible refine gate_callee (f := 14) rfl ?_); refine goesL_ (some 33) rfl rfl Try.func14 (by kernel_rfl) rfl #[.string t156] rfl (by (try simp only [List.map_toArray, List.map_cons, List.map_nil]); first | done | rfl | (simp only [List.length_drop, List.length_take]; rfl)) ?_; (with_reducible refine (hexa_Long.calls kj6 t156 t157 t158 t159 _ A21.out).mono ?_); rintro e w29 ⟨rfl, hb⟩; refine ⟨_, rfl, ?_⟩; have n0_ := Aside0.mk (below_step (by repeat (first | (with_reducible first | exact HB.out | apply below_alloc | apply pw_below_drewN | apply below_drew1) | exact HB.out)) hb); clear HB; have HB := n0_; clear n0_; (try clear hb); (try clear hb2); (try clear hk); (try clear hi)) | ((with_reducible refine gate_callee (f := 10) rfl ?_); refine goesL_ (some 37) rfl rfl Try.func10 (by kernel_rfl) rfl #[] rfl (by (try simp only [List.map_toArray, List.map_cons, List.map_nil]); first | done | rfl | (simp only [List.length_drop, List.length_take]; rfl)) ?_; (with_reducible refine (tarnlaw44_awake.calls kj6  true _ A22.out).mono ?_); rintro e w30 ⟨rfl, hb⟩; refine ⟨_, rfl, ?_⟩; have n0_ := Aside0.mk (below_step (by repeat (first | (with_reducible first | exact HB.out | apply below_alloc | apply pw_below_drewN | apply below_drew1) | exact HB.out)) hb); clear HB; have HB := n0_; clear n0_; (try clear hb); (try clear hb2); (try clear hk); (try clear hi)) | (go_at_call 15; (with_reducible refine (hexa_Block.calls kj6 x5_6 t161 _ A24.out).mono ?_); rintro e w31 ⟨rfl, hb⟩; have n0_ := Aside0.mk (below_step (by repeat (first | (with_reducible first | exact HB.out | apply below_alloc | apply pw_below_drewN | apply below_drew1) | exact HB.out)) hb); clear HB; have HB := n0_; clear n0_; (try clear hb); (try clear hb2); (try clear hk); (try clear hi)) | (go_at_call 16; (with_reducible refine (tarnref44_Block.calls kj6 x5_6 t162 _ A25.out).mono ?_); rintro e w32 ⟨rfl, hb⟩; have n0_ := Aside0.mk (below_step (by repeat (first | (with_reducible first | exact HB.out | apply below_alloc | apply pw_below_drewN | apply below_drew1) | exact HB.out)) hb); clear HB; have HB := n0_; clear n0_; (try clear hb); (try clear hb2); (try clear hk); (try clear hi)))
                go_ret
                exact ⟨by first | rfl | (simp [errW_none, errW_some] <;> rfl) | (simp only [← hji3]; first | rfl | (simp [errW_none, errW_some] <;> rfl)) | (simp [*, errW_none, errW_some] <;> rfl), by repeat (first | (with_reducible first | exact HB.out | apply below_alloc | apply pw_below_drewN | apply below_drew1) | exact HB.out)⟩
              · rw [if_neg c27] at H
                have c27b0 : (t159 == 0) = false := beq_eq_false_iff_ne.mpr c27
                have c27b1 : (t159 != 0) = true := bne_iff_ne.mpr c27
                obtain rfl := Option.some.inj H
                go_wp2_with (first | ((with_reducible refine gate_callee (f := 15) rfl ?_); refine goesL_ (some 32) rfl rfl Try.func15 (by kernel_rfl) rfl #[.string x5_6] rfl (by (try simp only [List.map_toArray, List.map_cons, List.map_nil]); first | done | rfl | (simp only [List.length_drop, List.length_take]; rfl)) ?_; (with_reducible refine (hexa_Block.calls kj6 x5_6 t156 _ A20.out).mono ?_); rintro e w33 ⟨rfl, hb⟩; refine ⟨_, rfl, ?_⟩; have n0_ := Aside0.mk (below_step (by repeat (first | (with_reducible first | exact HB.out | apply below_alloc | apply pw_below_drewN | apply below_drew1) | exact HB.out)) hb); clear HB; have HB := n0_; clear n0_; (try clear hb); (try clear hb2); (try clear hk); (try clear hi)) | ((with_reducible refine gate_callee (f := 14) rfl ?_); refine goesL_ (some 33) rfl rfl Try.func14 (by kernel_rfl) rfl #[.string t156] rfl (by (try simp only [List.map_toArray, List.map_cons, List.map_nil]); first | done | rfl | (simp only [List.length_drop, List.length_take]; rfl)) ?_; (with_reducible refine (hexa_Long.calls kj6 t156 t157 t158 t159 _ A21.out).mono ?_); rintro e w34 ⟨rfl, hb⟩; refine ⟨_, rfl, ?_⟩; have n0_ := Aside0.mk (below_step (by repeat (first | (with_reducible first | exact HB.out | apply below_alloc | apply pw_below_drewN | apply below_drew1) | exact HB.out)) hb); clear HB; have HB := n0_; clear n0_; (try clear hb); (try clear hb2); (try clear hk); (try clear hi)) | ((with_reducible refine gate_callee (f := 10) rfl ?_); refine goesL_ (some 37) rfl rfl Try.func10 (by kernel_rfl) rfl #[] rfl (by (try simp only [List.map_toArray, List.map_cons, List.map_nil]); first | done | rfl | (simp only [List.length_drop, List.length_take]; rfl)) ?_; (with_reducible refine (tarnlaw44_awake.calls kj6  true _ A22.out).mono ?_); rintro e w35 ⟨rfl, hb⟩; refine ⟨_, rfl, ?_⟩; have n0_ := Aside0.mk (below_step (by repeat (first | (with_reducible first | exact HB.out | apply below_alloc | apply pw_below_drewN | apply below_drew1) | exact HB.out)) hb); clear HB; have HB := n0_; clear n0_; (try clear hb); (try clear hb2); (try clear hk); (try clear hi)) | (go_at_call 15; (with_reducible refine (hexa_Block.calls kj6 x5_6 t161 _ A24.out).mono ?_); rintro e w36 ⟨rfl, hb⟩; have n0_ := Aside0.mk (below_step (by repeat (first | (with_reducible first | exact HB.out | apply below_alloc | apply pw_below_drewN | apply below_drew1) | exact HB.out)) hb); clear HB; have HB := n0_; clear n0_; (try clear hb); (try clear hb2); (try clear hk); (try clear hi)) | (go_at_call 16; (with_reducible refine (tarnref44_Block.calls kj6 x5_6 t162 _ A25.out).mono ?_); rintro e w37 ⟨rfl, hb⟩; have n0_ := Aside0.mk (below_step (by repeat (first | (with_reducible first | exact HB.out | apply below_alloc | apply pw_below_drewN | apply below_drew1) | exact HB.out)) hb); clear HB; have HB := n0_; clear n0_; (try clear hb); (try clear hb2); (try clear hk); (try clear hi)))
                go_ret
                exact ⟨by first | rfl | (simp [errW_none, errW_some] <;> rfl) | (simp only [← hji3]; first | rfl | (simp [errW_none, errW_some] <;> rfl)) | (simp [*, errW_none, errW_some] <;> rfl), by repeat (first | (with_reducible first | exact HB.out | apply below_alloc | apply pw_below_drewN | apply below_drew1) | exact HB.out)⟩
            · rw [if_neg c26] at H
              have c26b0 : (t161.toList == t162.toList) = false := beq_eq_false_iff_ne.mpr c26
              have c26b1 : (t161.toList != t162.toList) = true := bne_iff_ne.mpr c26
              obtain rfl := Option.some.inj H
              go_wp2_with (first | ((with_reducible refine gate_callee (f := 15) rfl ?_); refine goesL_ (some 32) rfl rfl Try.func15 (by kernel_rfl) rfl #[.string x5_6] rfl (by (try simp only [List.map_toArray, List.map_cons, List.map_nil]); first | done | rfl | (simp only [List.length_drop, List.length_take]; rfl)) ?_; (with_reducible refine (hexa_Block.calls kj6 x5_6 t156 _ A20.out).mono ?_); rintro e w38 ⟨rfl, hb⟩; refine ⟨_, rfl, ?_⟩; have n0_ := Aside0.mk (below_step (by repeat (first | (with_reducible first | exact HB.out | apply below_alloc | apply pw_below_drewN | apply below_drew1) | exact HB.out)) hb); clear HB; have HB := n0_; clear n0_; (try clear hb); (try clear hb2); (try clear hk); (try clear hi)) | ((with_reducible refine gate_callee (f := 14) rfl ?_); refine goesL_ (some 33) rfl rfl Try.func14 (by kernel_rfl) rfl #[.string t156] rfl (by (try simp only [List.map_toArray, List.map_cons, List.map_nil]); first | done | rfl | (simp only [List.length_drop, List.length_take]; rfl)) ?_; (with_reducible refine (hexa_Long.calls kj6 t156 t157 t158 t159 _ A21.out).mono ?_); rintro e w39 ⟨rfl, hb⟩; refine ⟨_, rfl, ?_⟩; have n0_ := Aside0.mk (below_step (by repeat (first | (with_reducible first | exact HB.out | apply below_alloc | apply pw_below_drewN | apply below_drew1) | exact HB.out)) hb); clear HB; have HB := n0_; clear n0_; (try clear hb); (try clear hb2); (try clear hk); (try clear hi)) | ((with_reducible refine gate_callee (f := 10) rfl ?_); refine goesL_ (some 37) rfl rfl Try.func10 (by kernel_rfl) rfl #[] rfl (by (try simp only [List.map_toArray, List.map_cons, List.map_nil]); first | done | rfl | (simp only [List.length_drop, List.length_take]; rfl)) ?_; (with_reducible refine (tarnlaw44_awake.calls kj6  true _ A22.out).mono ?_); rintro e w40 ⟨rfl, hb⟩; refine ⟨_, rfl, ?_⟩; have n0_ := Aside0.mk (below_step (by repeat (first | (with_reducible first | exact HB.out | apply below_alloc | apply pw_below_drewN | apply below_drew1) | exact HB.out)) hb); clear HB; have HB := n0_; clear n0_; (try clear hb); (try clear hb2); (try clear hk); (try clear hi)) | (go_at_call 15; (with_reducible refine (hexa_Block.calls kj6 x5_6 t161 _ A24.out).mono ?_); rintro e w41 ⟨rfl, hb⟩; have n0_ := Aside0.mk (below_step (by repeat (first | (with_reducible first | exact HB.out | apply below_alloc | apply pw_below_drewN | apply below_drew1) | exact HB.out)) hb); clear HB; have HB := n0_; clear n0_; (try clear hb); (try clear hb2); (try clear hk); (try clear hi)) | (go_at_call 16; (with_reducible refine (tarnref44_Block.calls kj6 x5_6 t162 _ A25.out).mono ?_); rintro e w42 ⟨rfl, hb⟩; have n0_ := Aside0.mk (below_step (by repeat (first | (with_reducible first | exact HB.out | apply below_alloc | apply pw_below_drewN | apply below_drew1) | exact HB.out)) hb); clear HB; have HB := n0_; clear n0_; (try clear hb); (try clear hb2); (try clear hk); (try clear hi)))
              go_ret
              exact ⟨by first | rfl | (simp [errW_none, errW_some] <;> rfl) | (simp only [← hji3]; first | rfl | (simp [errW_none, errW_some] <;> rfl)) | (simp [*, errW_none, errW_some] <;> rfl), by repeat (first | (with_reducible first | exact HB.out | apply below_alloc | apply pw_below_drewN | apply below_drew1) | exact HB.out)⟩
          · replace c23 := Bool.eq_false_iff.mpr c23
            subst c23
            have H1 : (some false) = some r := by rw [if_neg (show ¬ (false = true) by decide)] at H; exact H
            clear H
            have H := H1
            clear H1
            obtain rfl := Option.some.inj H
            go_wp2_with (first | ((with_reducible refine gate_callee (f := 15) rfl ?_); refine goesL_ (some 32) rfl rfl Try.func15 (by kernel_rfl) rfl #[.string x5_6] rfl (by (try simp only [List.map_toArray, List.map_cons, List.map_nil]); first | done | rfl | (simp only [List.length_drop, List.length_take]; rfl)) ?_; (with_reducible refine (hexa_Block.calls kj6 x5_6 t156 _ A20.out).mono ?_); rintro e w43 ⟨rfl, hb⟩; refine ⟨_, rfl, ?_⟩; have n0_ := Aside0.mk (below_step (by repeat (first | (with_reducible first | exact HB.out | apply below_alloc | apply pw_below_drewN | apply below_drew1) | exact HB.out)) hb); clear HB; have HB := n0_; clear n0_; (try clear hb); (try clear hb2); (try clear hk); (try clear hi)) | ((with_reducible refine gate_callee (f := 14) rfl ?_); refine goesL_ (some 33) rfl rfl Try.func14 (by kernel_rfl) rfl #[.string t156] rfl (by (try simp only [List.map_toArray, List.map_cons, List.map_nil]); first | done | rfl | (simp only [List.length_drop, List.length_take]; rfl)) ?_; (with_reducible refine (hexa_Long.calls kj6 t156 t157 t158 t159 _ A21.out).mono ?_); rintro e w44 ⟨rfl, hb⟩; refine ⟨_, rfl, ?_⟩; have n0_ := Aside0.mk (below_step (by repeat (first | (with_reducible first | exact HB.out | apply below_alloc | apply pw_below_drewN | apply below_drew1) | exact HB.out)) hb); clear HB; have HB := n0_; clear n0_; (try clear hb); (try clear hb2); (try clear hk); (try clear hi)) | ((with_reducible refine gate_callee (f := 10) rfl ?_); refine goesL_ (some 37) rfl rfl Try.func10 (by kernel_rfl) rfl #[] rfl (by (try simp only [List.map_toArray, List.map_cons, List.map_nil]); first | done | rfl | (simp only [List.length_drop, List.length_take]; rfl)) ?_; (with_reducible refine (tarnlaw44_awake.calls kj6  false _ A22.out).mono ?_); rintro e w45 ⟨rfl, hb⟩; refine ⟨_, rfl, ?_⟩; have n0_ := Aside0.mk (below_step (by repeat (first | (with_reducible first | exact HB.out | apply below_alloc | apply pw_below_drewN | apply below_drew1) | exact HB.out)) hb); clear HB; have HB := n0_; clear n0_; (try clear hb); (try clear hb2); (try clear hk); (try clear hi)))
            go_ret
            exact ⟨by first | rfl | (simp [errW_none, errW_some] <;> rfl) | (simp only [← hji3]; first | rfl | (simp [errW_none, errW_some] <;> rfl)) | (simp [*, errW_none, errW_some] <;> rfl), by repeat (first | (with_reducible first | exact HB.out | apply below_alloc | apply pw_below_drewN | apply below_drew1) | exact HB.out)⟩
    · rw [if_neg c5] at H
      exact absurd H (by simp)
  · rw [if_neg c4] at H
    exact absurd H (by simp)

/-- THE ONE PURE STATEMENT of tarnlaw44_HexaBlocks: yours. -/
def tarnlaw44_HexaBlocks.Pure : Prop := ∀ (a0 : ByteArray) (a1 : Int), a0.size ≤ 140737488351232 → (Lit.int .i64 a1).wf = true → ∃ k, tarnlaw44_HexaBlocks.f k a0 a1 = some true
theorem tarnlaw44_HexaBlocks.walk (P : tarnlaw44_HexaBlocks.Pure) (a0 : ByteArray) (a1 : Int) (w : World) (w0 : a0.size ≤ 140737488351232) (w1 : (Lit.int .i64 a1).wf = true) :
    Calls Try.prog 5 #[.string a0, .int .i64 a1] w fun e w' => e = .returned (.bool true) ∧ Below w.heap.size w w' := by
  obtain ⟨k, h⟩ := P a0 a1 w0 w1
  refine (tarnlaw44_HexaBlocks.calls k a0 a1 true w h).mono ?_
  rintro e w' ⟨rfl, hd⟩
  exact ⟨rfl, hd⟩

end Go.Proofs.Ytfblmfefcgmpfac.PHexa
