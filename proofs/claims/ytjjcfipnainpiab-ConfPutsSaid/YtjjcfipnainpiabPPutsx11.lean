-- Printed by wip/xprint of this session, over the kit's print: Lean functions for Go functions, and their contracts.
import Derived.Test.YtjjcfipnainpiabPPutsx0
namespace Go.Proofs.Ytjjcfipnainpiab.PPuts
open Go.RowKit Go.Proofs.YtjjcfipnainpiabW.PrintWords Go.Proofs.YtjjcfipnainpiabW.PrintLast Go.Proofs.YtjjcfipnainpiabW.PrintMore Go.Proofs.Ytjjcfipnainpiab.X
attribute [local go_sem] max2_int min2_int max_two min_two max_three min_three max_four min_four   -- for this text's walks alone
set_option linter.unusedVariables false
set_option linter.unusedSimpArgs false

/-! ### tarnref01_High: function 108 -/
def tarnref01_High.f : Nat → Int → Option (ByteArray)
  | 0, _ => none
  | k + 1, a0 => if a0 = 0 then (some (⟨#[]⟩ : ByteArray)) else ((tarnref01_High.f k (IntKind.u64.wrap (Int.tdiv a0 256))).bind fun t281 => ((some (([(Int.tmod a0 256) % 256] : List Int) : List Int)).bind fun y282 => (if t281.size + (strOfNums y282).size ≤ 9223372036854775807 then (some (t281 ++ (strOfNums y282))) else (none))))
theorem tarnref01_High.mono_l : ∀ k, (∀ y0, LeO (tarnref01_High.f k y0) (tarnref01_High.f (k + 1) y0))
  | 0 => fun _ r h => by simp [tarnref01_High.f] at h
  | k + 1 => by
    have ih0 := tarnref01_High.mono_l k
    · intro y0
      unfold tarnref01_High.f
      repeat' first
      | (with_reducible exact ih0 _)
      | (with_reducible exact LeO.refl _)
      | (with_reducible exact LeO.none _)
      | (with_reducible refine LeO.ite ?_ ?_)
      | (with_reducible refine LeO.bind ?_ (fun _ => ?_))
      | exact ih0 _
      | exact LeO.none _
      | refine LeO.ite ?_ ?_
      | refine LeO.bind ?_ (fun _ => ?_)
theorem tarnref01_High.mono : ∀ a0 k, LeO (tarnref01_High.f k a0) (tarnref01_High.f (k + 1) a0) := by
  intro a0 k
  have ih0 := tarnref01_High.mono_l k
  exact ih0 a0
def tarnref01_High.T3 : Bool × List (List Nat × List Nat) := (true, [([], []), ([0], [0]), ([1], [1]), ([], []), ([3], [3]), ([4], [4]), ([5], [5]), ([6], [6]), ([2, 7], [2, 7]), ([8, 2, 0, 1, 2, 3, 4, 5, 6, 7, 8], [8])])
def tarnref01_High.B3 : List Nat := [0, 1, 3, 0, 8, 24, 56, 120, 255, 511]
theorem tarnref01_High.tab3 : rtab .any (opsOf Try.f108 3) = tarnref01_High.T3 := by kernel_rfl
theorem tarnref01_High.bits3 : waitsOk tarnref01_High.T3.2 tarnref01_High.B3 = true := by kernel_rfl
set_option maxHeartbeats 3000000 in
set_option maxRecDepth 100000 in
theorem tarnref01_High.calls (k : Nat) : ∀ (a0 : Int) (r : ByteArray) (w : World) (h : tarnref01_High.f k a0 = some r),
    Calls Try.prog 108 #[.int .u64 a0] w fun e w' => e = .returned (.string r) ∧ Below w.heap.size w w' := by
  induction k using Nat.strongRecOn with
  | _ k ih =>
  intro a0 r w h
  cases k with
  | zero => exact absurd h (by simp [tarnref01_High.f])
  | succ k =>
  simp only [tarnref01_High.f] at h
  have HB := Aside0.mk (Below.refl w.heap.size w)
  have H : (if a0 = 0 then (some (⟨#[]⟩ : ByteArray)) else ((tarnref01_High.f k (IntKind.u64.wrap (Int.tdiv a0 256))).bind fun t281 => ((some (([(Int.tmod a0 256) % 256] : List Int) : List Int)).bind fun y282 => (if t281.size + (strOfNums y282).size ≤ 9223372036854775807 then (some (t281 ++ (strOfNums y282))) else (none))))) = some r := h
  clear h
  by_cases c2 : a0 = 0
  · rw [if_pos c2] at H
    have c2b0 : (a0 == 0) = true := beq_iff_eq.mpr c2
    have c2b1 : (a0 != 0) = false := bne_eq_false_iff_eq.mpr c2
    clear c2
    obtain rfl := Option.some.inj H
    go_enter Try.func108, Try.ntmps108
    go_wp2
    go_ret
    exact ⟨by first | rfl | (simp [errW_none, errW_some] <;> rfl) | (simp [*, errW_none, errW_some] <;> rfl), by repeat (first | (with_reducible first | exact HB.out | apply below_alloc | apply pw_below_drewN | apply below_drew1) | exact HB.out)⟩
  · rw [if_neg c2] at H
    have c2b0 : (a0 == 0) = false := beq_eq_false_iff_ne.mpr c2
    have c2b1 : (a0 != 0) = true := bne_iff_ne.mpr c2
    replace H := Option.bind_eq_some_iff.mp H
    obtain ⟨t281, A30, H⟩ := H
    replace H : ((some (([(Int.tmod a0 256) % 256] : List Int) : List Int)).bind fun y282 => (if t281.size + (strOfNums y282).size ≤ 9223372036854775807 then (some (t281 ++ (strOfNums y282))) else (none))) = some r := H
    have A3 := Aside0.mk A30
    clear A30
    obtain ⟨y282, hy282⟩ : ∃ y_ : List Int, y_ = (([(Int.tmod a0 256) % 256] : List Int)) := ⟨_, rfl⟩
    replace H : (if t281.size + (strOfNums y282).size ≤ 9223372036854775807 then (some (t281 ++ (strOfNums y282))) else (none)) = some r := by first | (rw [hy282]; with_reducible exact H) | (have H2_ := (Option.bind_some _ _).symm.trans H; rw [hy282]; with_reducible exact H2_) | (have H2_ := (Option.bind_some _ _).symm.trans H; with_reducible exact H2_) | with_reducible exact H | (rw [hy282]; exact H) | exact H
    have Ny282 := Aside0.mk hy282
    clear hy282
    by_cases c4 : t281.size + (strOfNums y282).size ≤ 9223372036854775807
    · rw [if_pos c4] at H
      have c4b0 := eq_true c4
      have c4b1 : decide (t281.size + (strOfNums y282).size ≤ 9223372036854775807) = true := decide_eq_true c4
      try have c4b2 : (9223372036854775807 < t281.size + (strOfNums y282).size) = False := eq_false (Nat.not_lt.2 c4)
      try have c4b3 : ∀ W_ : World, (Op.stringOp .add t281 (strOfNums y282)).run Try.prog W_ = .ok (.string (t281 ++ (strOfNums y282))) W_ := fun W_ => run_string_add_sum W_ _ _ (by first | exact c4 | simpa using c4)
      obtain rfl := Option.some.inj H
      go_enter Try.func108, Try.ntmps108
      try go_wp2
      have n0_ := Aside0.mk (below_drew1 HB.out)
      clear HB
      have HB := n0_
      clear n0_
      refine start_ (n := 10) (S := fun w' => True) (ds := []) #[false, false, false, false, false, false, false, false, false, false] (by kernel_rfl) rfl rfl trivial (fun hHeld => ?_); refine with_tabW tarnref01_High.tab3 tarnref01_High.bits3 (fun HT_ HW_ => ?_)
      generalize w.drew = w5 at HB hHeld ⊢
      refine pure_ (i := 0) (N := some 5) (v := ?_) (a' := ?_) #[true, false, false, false, false, false, false, false, false, false] rfl rfl (any_of HT_.out (by kernel_rfl)) (fun _ _ _ h => h) (Or.inl ⟨by rfl, ?_⟩) ?_ ?_
      rotate_left
      · first | (intro w'; go_simp; with_reducible rfl) | (intro w'; refine Eq.trans (add_step (by rfl) (by rfl) (by rfl) (by assumption) w') ?_; with_reducible rfl) | (intro w'; refine Eq.trans (cut_hi_n Try.underlying9 (by rfl) (by rfl) (by rfl) (by first | assumption | exact of_eq_true (by assumption) | exact of_decide_eq_true (by assumption) | omega) w') ?_; with_reducible rfl) | (intro w'; refine Eq.trans (cut_hi Try.underlying9 (by rfl) (by rfl) (by rfl) (by first | assumption | exact of_eq_true (by assumption) | exact of_decide_eq_true (by assumption) | omega) (by first | assumption | exact of_eq_true (by assumption) | exact of_decide_eq_true (by assumption) | omega) w') ?_; with_reducible rfl) | (intro w'; refine Eq.trans (cut_lo Try.underlying9 (by rfl) (by rfl) (by rfl) (by first | assumption | exact of_eq_true (by assumption) | exact of_decide_eq_true (by assumption) | omega) (by first | assumption | exact of_eq_true (by assumption) | exact of_decide_eq_true (by assumption) | omega) w') ?_; with_reducible rfl) | (intro w'; refine Eq.trans (cut_both Try.underlying9 (by rfl) (by rfl) (by rfl) (by rfl) (by first | assumption | exact of_eq_true (by assumption) | exact of_decide_eq_true (by assumption) | omega) (by first | assumption | exact of_eq_true (by assumption) | exact of_decide_eq_true (by assumption) | omega) (by first | assumption | exact of_eq_true (by assumption) | exact of_decide_eq_true (by assumption) | omega) w') ?_; with_reducible rfl)
      rotate_left
      · simp only [Act.put, List.setIfInBounds_toArray, List.set_cons_zero, List.set_cons_succ, i64_w, i32_w]
        rfl
      refine pure_ (i := 1) (N := some 6) (v := ?_) (a' := ?_) #[true, true, false, false, false, false, false, false, false, false] rfl rfl (any_of HT_.out (by kernel_rfl)) (fun _ _ _ h => h) (Or.inl ⟨by rfl, ?_⟩) ?_ ?_
      rotate_left
      · first | (intro w'; go_simp; with_reducible rfl) | (intro w'; refine Eq.trans (add_step (by rfl) (by rfl) (by rfl) (by assumption) w') ?_; with_reducible rfl) | (intro w'; refine Eq.trans (cut_hi_n Try.underlying9 (by rfl) (by rfl) (by rfl) (by first | assumption | exact of_eq_true (by assumption) | exact of_decide_eq_true (by assumption) | omega) w') ?_; with_reducible rfl) | (intro w'; refine Eq.trans (cut_hi Try.underlying9 (by rfl) (by rfl) (by rfl) (by first | assumption | exact of_eq_true (by assumption) | exact of_decide_eq_true (by assumption) | omega) (by first | assumption | exact of_eq_true (by assumption) | exact of_decide_eq_true (by assumption) | omega) w') ?_; with_reducible rfl) | (intro w'; refine Eq.trans (cut_lo Try.underlying9 (by rfl) (by rfl) (by rfl) (by first | assumption | exact of_eq_true (by assumption) | exact of_decide_eq_true (by assumption) | omega) (by first | assumption | exact of_eq_true (by assumption) | exact of_decide_eq_true (by assumption) | omega) w') ?_; with_reducible rfl) | (intro w'; refine Eq.trans (cut_both Try.underlying9 (by rfl) (by rfl) (by rfl) (by rfl) (by first | assumption | exact of_eq_true (by assumption) | exact of_decide_eq_true (by assumption) | omega) (by first | assumption | exact of_eq_true (by assumption) | exact of_decide_eq_true (by assumption) | omega) (by first | assumption | exact of_eq_true (by assumption) | exact of_decide_eq_true (by assumption) | omega) w') ?_; with_reducible rfl)
      rotate_left
      · simp only [Act.put, List.setIfInBounds_toArray, List.set_cons_zero, List.set_cons_succ, i64_w, i32_w]
        rfl
      refine pure_ (i := 3) (N := some 8) (v := ?_) (a' := ?_) #[true, true, false, true, false, false, false, false, false, false] rfl rfl (any_of HT_.out (by kernel_rfl)) (fun _ _ _ h => h) (Or.inl ⟨by rfl, ?_⟩) ?_ ?_
      rotate_left
      · first | (intro w'; go_simp; with_reducible rfl) | (intro w'; refine Eq.trans (add_step (by rfl) (by rfl) (by rfl) (by assumption) w') ?_; with_reducible rfl) | (intro w'; refine Eq.trans (cut_hi_n Try.underlying9 (by rfl) (by rfl) (by rfl) (by first | assumption | exact of_eq_true (by assumption) | exact of_decide_eq_true (by assumption) | omega) w') ?_; with_reducible rfl) | (intro w'; refine Eq.trans (cut_hi Try.underlying9 (by rfl) (by rfl) (by rfl) (by first | assumption | exact of_eq_true (by assumption) | exact of_decide_eq_true (by assumption) | omega) (by first | assumption | exact of_eq_true (by assumption) | exact of_decide_eq_true (by assumption) | omega) w') ?_; with_reducible rfl) | (intro w'; refine Eq.trans (cut_lo Try.underlying9 (by rfl) (by rfl) (by rfl) (by first | assumption | exact of_eq_true (by assumption) | exact of_decide_eq_true (by assumption) | omega) (by first | assumption | exact of_eq_true (by assumption) | exact of_decide_eq_true (by assumption) | omega) w') ?_; with_reducible rfl) | (intro w'; refine Eq.trans (cut_both Try.underlying9 (by rfl) (by rfl) (by rfl) (by rfl) (by first | assumption | exact of_eq_true (by assumption) | exact of_decide_eq_true (by assumption) | omega) (by first | assumption | exact of_eq_true (by assumption) | exact of_decide_eq_true (by assumption) | omega) (by first | assumption | exact of_eq_true (by assumption) | exact of_decide_eq_true (by assumption) | omega) w') ?_; with_reducible rfl)
      rotate_left
      · simp only [Act.put, List.setIfInBounds_toArray, List.set_cons_zero, List.set_cons_succ, i64_w, i32_w]
        rfl
      refine pure_ (i := 4) (N := some 9) (v := ?_) (a' := ?_) #[true, true, false, true, true, false, false, false, false, false] rfl rfl (any_of HT_.out (by kernel_rfl)) (fun _ _ _ h => h) (Or.inl ⟨by rfl, ?_⟩) ?_ ?_
      rotate_left
      · first | (intro w'; go_simp; with_reducible rfl) | (intro w'; refine Eq.trans (add_step (by rfl) (by rfl) (by rfl) (by assumption) w') ?_; with_reducible rfl) | (intro w'; refine Eq.trans (cut_hi_n Try.underlying9 (by rfl) (by rfl) (by rfl) (by first | assumption | exact of_eq_true (by assumption) | exact of_decide_eq_true (by assumption) | omega) w') ?_; with_reducible rfl) | (intro w'; refine Eq.trans (cut_hi Try.underlying9 (by rfl) (by rfl) (by rfl) (by first | assumption | exact of_eq_true (by assumption) | exact of_decide_eq_true (by assumption) | omega) (by first | assumption | exact of_eq_true (by assumption) | exact of_decide_eq_true (by assumption) | omega) w') ?_; with_reducible rfl) | (intro w'; refine Eq.trans (cut_lo Try.underlying9 (by rfl) (by rfl) (by rfl) (by first | assumption | exact of_eq_true (by assumption) | exact of_decide_eq_true (by assumption) | omega) (by first | assumption | exact of_eq_true (by assumption) | exact of_decide_eq_true (by assumption) | omega) w') ?_; with_reducible rfl) | (intro w'; refine Eq.trans (cut_both Try.underlying9 (by rfl) (by rfl) (by rfl) (by rfl) (by first | assumption | exact of_eq_true (by assumption) | exact of_decide_eq_true (by assumption) | omega) (by first | assumption | exact of_eq_true (by assumption) | exact of_decide_eq_true (by assumption) | omega) (by first | assumption | exact of_eq_true (by assumption) | exact of_decide_eq_true (by assumption) | omega) w') ?_; with_reducible rfl)
      rotate_left
      · simp only [Act.put, List.setIfInBounds_toArray, List.set_cons_zero, List.set_cons_succ, i64_w, i32_w]
        rfl
      refine pure_ (i := 5) (N := some 10) (v := ?_) (a' := ?_) #[true, true, false, true, true, true, false, false, false, false] rfl rfl (any_of HT_.out (by kernel_rfl)) (fun _ _ _ h => h) (Or.inl ⟨by rfl, ?_⟩) ?_ ?_
      rotate_left
      · first | (intro w'; go_simp; with_reducible rfl) | (intro w'; refine Eq.trans (add_step (by rfl) (by rfl) (by rfl) (by assumption) w') ?_; with_reducible rfl) | (intro w'; refine Eq.trans (cut_hi_n Try.underlying9 (by rfl) (by rfl) (by rfl) (by first | assumption | exact of_eq_true (by assumption) | exact of_decide_eq_true (by assumption) | omega) w') ?_; with_reducible rfl) | (intro w'; refine Eq.trans (cut_hi Try.underlying9 (by rfl) (by rfl) (by rfl) (by first | assumption | exact of_eq_true (by assumption) | exact of_decide_eq_true (by assumption) | omega) (by first | assumption | exact of_eq_true (by assumption) | exact of_decide_eq_true (by assumption) | omega) w') ?_; with_reducible rfl) | (intro w'; refine Eq.trans (cut_lo Try.underlying9 (by rfl) (by rfl) (by rfl) (by first | assumption | exact of_eq_true (by assumption) | exact of_decide_eq_true (by assumption) | omega) (by first | assumption | exact of_eq_true (by assumption) | exact of_decide_eq_true (by assumption) | omega) w') ?_; with_reducible rfl) | (intro w'; refine Eq.trans (cut_both Try.underlying9 (by rfl) (by rfl) (by rfl) (by rfl) (by first | assumption | exact of_eq_true (by assumption) | exact of_decide_eq_true (by assumption) | omega) (by first | assumption | exact of_eq_true (by assumption) | exact of_decide_eq_true (by assumption) | omega) (by first | assumption | exact of_eq_true (by assumption) | exact of_decide_eq_true (by assumption) | omega) w') ?_; with_reducible rfl)
      rotate_left
      · simp only [Act.put, List.setIfInBounds_toArray, List.set_cons_zero, List.set_cons_succ, i64_w, i32_w]
        rfl
      refine join_ (σ := Value) 2 #[true, true, true, true, true, true, true, true, false, false] (fun s_ => [(7, .string t281), (11, s_), (12, .string (strOfNums y282))]) (fun s_ w' => (Kd.R (Kd.int .u8) 5 w' w.heap.size (fun _ => True) s_ y282) ∧ (Below w.heap.size w w')) ?_ ?_
      rotate_left
      · intro hCont
        refine two_ (i := 2) (j := 6) (Ni := some 7) (Nj := some 11) #[true, true, true, true, true, true, false, false, false, false] #[true, true, false, true, true, true, true, false, false, false] rfl rfl rfl rfl (two_of HT_.out (by kernel_rfl)) (by decide) (by decide) (fun K hK => ?_) (fun K hK => ?_)
        · skip
          refine goes_ Try.func108 (by kernel_rfl) rfl #[.int .u64 (IntKind.u64.wrap (Int.tdiv a0 256))] (by rfl) rfl rfl (by (try simp only [List.map_toArray, List.map_cons, List.map_nil]); first | done | rfl | (simp only [List.length_drop, List.length_take]; rfl) | (exact congrArg List.toArray (congr (congrArg List.cons (congrArg (Value.int .u64) (by simp only [wrap64, wrap32]; omega))) rfl))) ?_
          with_reducible refine (ih k (by omega) (IntKind.u64.wrap (Int.tdiv a0 256)) t281 _ A3.out).mono ?_
          rintro e w6 ⟨rfl, hb⟩
          refine ⟨_, rfl, ?_⟩
          have n0_ := Aside0.mk (below_step (by repeat (first | (with_reducible first | exact HB.out | apply below_alloc | apply pw_below_drewN | apply below_drew1) | exact HB.out)) hb)
          clear HB
          have HB := n0_
          clear n0_
          (try clear hb)
          (try clear hb2)
          (try clear hk)
          (try clear hi)
          refine hK.out _ _ trivial (fun hHeld => ?_)
          clear hK K
          refine norm_ (a' := ?_) ?_ ?_
          rotate_left
          · show Act.put _ (some 7) _ = _
            simp only [Act.put, List.setIfInBounds_toArray, List.set_cons_zero, List.set_cons_succ, i64_w, i32_w]
            rfl
          refine one_ (i := 6) (N := some 11) #[true, true, true, true, true, true, true, false, false, false] rfl rfl (one_of HT_.out (by kernel_rfl)) (by decide) (fun K hK => ?_)
          refine Kd.R_lit_step (Kd.int .u8) _ 5 ?hg (N := 11) ?hd (xs := ([(Int.tmod a0 256) % 256] : List Int)) (inner := [.int .u8 ((Int.tmod a0 256) % 256)]) (ok := fun _ => True) (okp := fun _ => True) ?hr ?hp (fun _ hk => hk) trivial (Below.refl _ _) (Nat.le_refl _) (by simp) ?_; (case hd => rfl); (case hg => rfl); (case hr => first | (go_simp; done) | (go_simp; rfl)); (case hp => exact (Reps.one (show Kd.M (Kd.int .u8) _ _ _ ((Int.tmod a0 256) % 256) [.int .u8 ((Int.tmod a0 256) % 256)] from rfl) (Reps.none _ _)))
          intro v283 w7 ho8 hb hg_ hnew_
          clear hg_ hnew_
          (first | rw [← Ny282.out] at ho8 | (simp only [Int.reduceToNat] at ho8; rw [← Ny282.out] at ho8))
          have n0_ := Aside0.mk (Kd.R_lower ho8 (below_size (by repeat (first | (with_reducible first | exact HB.out | apply below_alloc | apply pw_below_drewN | apply below_drew1) | exact HB.out))))
          have n1_ := Aside0.mk (below_step (by repeat (first | (with_reducible first | exact HB.out | apply below_alloc | apply pw_below_drewN | apply below_drew1) | exact HB.out)) hb)
          clear HB
          have HO284 := n0_
          have HB := n1_
          clear n0_ n1_
          clear hb ho8
          refine hK.out _ _ trivial (fun hHeld => ?_)
          clear hK K
          refine norm_ (a' := ?_) ?_ ?_
          rotate_left
          · show Act.put _ (some 11) _ = _
            simp only [Act.put, List.setIfInBounds_toArray, List.set_cons_zero, List.set_cons_succ, i64_w, i32_w]
            rfl
          refine one_ (i := 7) (N := some 12) #[true, true, true, true, true, true, true, true, false, false] rfl rfl (one_of HT_.out (by kernel_rfl)) (by decide) (fun K hK => ?_)
          have hcv9 := own_string (P := Try.prog) Try.underlying108 Try.underlying5 Try.underlying9 (Kd.own_of_R HO284.out)
          refine value_ (w1 := ?_) (v := ?_) (by rfl) rfl ?_ ?_
          rotate_left 2
          · go_simp
            constructor
            · rfl
            · rfl
          clear hcv9
          refine hK.out _ _ trivial (fun hHeld => ?_)
          clear hK K
          refine norm_ (a' := ?_) ?_ ?_
          rotate_left
          · show Act.put _ (some 12) _ = _
            simp only [Act.put, List.setIfInBounds_toArray, List.set_cons_zero, List.set_cons_succ, i64_w, i32_w]
            rfl
          exact norm_ (by simp only [putAll, Act.put, List.setIfInBounds_toArray, List.set_cons_zero, List.set_cons_succ]) (hCont (v283) _ ⟨(by (with_reducible repeat (first | apply Kd.R_alloc | apply Kd.R_drewN | apply Kd.R_drew)); exact HO284.out), (by repeat (first | (with_reducible first | exact HB.out | apply below_alloc | apply pw_below_drewN | apply below_drew1) | exact HB.out))⟩)
        · skip
          refine Kd.R_lit_step (Kd.int .u8) _ 5 ?hg (N := 11) ?hd (xs := ([(Int.tmod a0 256) % 256] : List Int)) (inner := [.int .u8 ((Int.tmod a0 256) % 256)]) (ok := fun _ => True) (okp := fun _ => True) ?hr ?hp (fun _ hk => hk) trivial (Below.refl _ _) (Nat.le_refl _) (by simp) ?_; (case hd => rfl); (case hg => rfl); (case hr => first | (go_simp; done) | (go_simp; rfl)); (case hp => exact (Reps.one (show Kd.M (Kd.int .u8) _ _ _ ((Int.tmod a0 256) % 256) [.int .u8 ((Int.tmod a0 256) % 256)] from rfl) (Reps.none _ _)))
          intro v283 w6 ho7 hb hg_ hnew_
          clear hg_ hnew_
          (first | rw [← Ny282.out] at ho7 | (simp only [Int.reduceToNat] at ho7; rw [← Ny282.out] at ho7))
          have n0_ := Aside0.mk (Kd.R_lower ho7 (below_size (by repeat (first | (with_reducible first | exact HB.out | apply below_alloc | apply pw_below_drewN | apply below_drew1) | exact HB.out))))
          have n1_ := Aside0.mk (below_step (by repeat (first | (with_reducible first | exact HB.out | apply below_alloc | apply pw_below_drewN | apply below_drew1) | exact HB.out)) hb)
          clear HB
          have HO284 := n0_
          have HB := n1_
          clear n0_ n1_
          clear hb ho7
          refine hK.out _ _ trivial (fun hHeld => ?_)
          clear hK K
          refine norm_ (a' := ?_) ?_ ?_
          rotate_left
          · show Act.put _ (some 11) _ = _
            simp only [Act.put, List.setIfInBounds_toArray, List.set_cons_zero, List.set_cons_succ, i64_w, i32_w]
            rfl
          refine two_ (i := 2) (j := 7) (Ni := some 7) (Nj := some 12) #[true, true, true, true, true, true, true, false, false, false] #[true, true, false, true, true, true, true, true, false, false] rfl rfl rfl rfl (two_of HT_.out (by kernel_rfl)) (by decide) (by decide) (fun K hK => ?_) (fun K hK => ?_)
          · skip
            refine goes_ Try.func108 (by kernel_rfl) rfl #[.int .u64 (IntKind.u64.wrap (Int.tdiv a0 256))] (by rfl) rfl rfl (by (try simp only [List.map_toArray, List.map_cons, List.map_nil]); first | done | rfl | (simp only [List.length_drop, List.length_take]; rfl) | (exact congrArg List.toArray (congr (congrArg List.cons (congrArg (Value.int .u64) (by simp only [wrap64, wrap32]; omega))) rfl))) ?_
            with_reducible refine (ih k (by omega) (IntKind.u64.wrap (Int.tdiv a0 256)) t281 _ A3.out).mono ?_
            rintro e w8 ⟨rfl, hb⟩
            refine ⟨_, rfl, ?_⟩
            have n0_ := Aside0.mk (Kd.R_below (by (with_reducible repeat (first | apply Kd.R_alloc | apply Kd.R_drewN | apply Kd.R_drew)); exact HO284.out) hb)
            have n1_ := Aside0.mk (below_step (by repeat (first | (with_reducible first | exact HB.out | apply below_alloc | apply pw_below_drewN | apply below_drew1) | exact HB.out)) hb)
            clear HO284
            clear HB
            have HO284 := n0_
            have HB := n1_
            clear n0_ n1_
            (try clear hb)
            (try clear hb2)
            (try clear hk)
            (try clear hi)
            refine hK.out _ _ trivial (fun hHeld => ?_)
            clear hK K
            refine norm_ (a' := ?_) ?_ ?_
            rotate_left
            · show Act.put _ (some 7) _ = _
              simp only [Act.put, List.setIfInBounds_toArray, List.set_cons_zero, List.set_cons_succ, i64_w, i32_w]
              rfl
            refine one_ (i := 7) (N := some 12) #[true, true, true, true, true, true, true, true, false, false] rfl rfl (one_of HT_.out (by kernel_rfl)) (by decide) (fun K hK => ?_)
            have hcv9 := own_string (P := Try.prog) Try.underlying108 Try.underlying5 Try.underlying9 (Kd.own_of_R HO284.out)
            refine value_ (w1 := ?_) (v := ?_) (by rfl) rfl ?_ ?_
            rotate_left 2
            · go_simp
              constructor
              · rfl
              · rfl
            clear hcv9
            refine hK.out _ _ trivial (fun hHeld => ?_)
            clear hK K
            refine norm_ (a' := ?_) ?_ ?_
            rotate_left
            · show Act.put _ (some 12) _ = _
              simp only [Act.put, List.setIfInBounds_toArray, List.set_cons_zero, List.set_cons_succ, i64_w, i32_w]
              rfl
            exact norm_ (by simp only [putAll, Act.put, List.setIfInBounds_toArray, List.set_cons_zero, List.set_cons_succ]) (hCont (v283) _ ⟨(by (with_reducible repeat (first | apply Kd.R_alloc | apply Kd.R_drewN | apply Kd.R_drew)); exact HO284.out), (by repeat (first | (with_reducible first | exact HB.out | apply below_alloc | apply pw_below_drewN | apply below_drew1) | exact HB.out))⟩)
          · skip
            have hcv8 := own_string (P := Try.prog) Try.underlying108 Try.underlying5 Try.underlying9 (Kd.own_of_R HO284.out)
            refine value_ (w1 := ?_) (v := ?_) (by rfl) rfl ?_ ?_
            rotate_left 2
            · go_simp
              constructor
              · rfl
              · rfl
            clear hcv8
            refine hK.out _ _ trivial (fun hHeld => ?_)
            clear hK K
            refine norm_ (a' := ?_) ?_ ?_
            rotate_left
            · show Act.put _ (some 12) _ = _
              simp only [Act.put, List.setIfInBounds_toArray, List.set_cons_zero, List.set_cons_succ, i64_w, i32_w]
              rfl
            refine one_ (i := 2) (N := some 7) #[true, true, true, true, true, true, true, true, false, false] rfl rfl (one_of HT_.out (by kernel_rfl)) (by decide) (fun K hK => ?_)
            refine goes_ Try.func108 (by kernel_rfl) rfl #[.int .u64 (IntKind.u64.wrap (Int.tdiv a0 256))] (by rfl) rfl rfl (by (try simp only [List.map_toArray, List.map_cons, List.map_nil]); first | done | rfl | (simp only [List.length_drop, List.length_take]; rfl) | (exact congrArg List.toArray (congr (congrArg List.cons (congrArg (Value.int .u64) (by simp only [wrap64, wrap32]; omega))) rfl))) ?_
            with_reducible refine (ih k (by omega) (IntKind.u64.wrap (Int.tdiv a0 256)) t281 _ A3.out).mono ?_
            rintro e w9 ⟨rfl, hb⟩
            refine ⟨_, rfl, ?_⟩
            have n0_ := Aside0.mk (Kd.R_below (by (with_reducible repeat (first | apply Kd.R_alloc | apply Kd.R_drewN | apply Kd.R_drew)); exact HO284.out) hb)
            have n1_ := Aside0.mk (below_step (by repeat (first | (with_reducible first | exact HB.out | apply below_alloc | apply pw_below_drewN | apply below_drew1) | exact HB.out)) hb)
            clear HO284
            clear HB
            have HO284 := n0_
            have HB := n1_
            clear n0_ n1_
            (try clear hb)
            (try clear hb2)
            (try clear hk)
            (try clear hi)
            refine hK.out _ _ trivial (fun hHeld => ?_)
            clear hK K
            refine norm_ (a' := ?_) ?_ ?_
            rotate_left
            · show Act.put _ (some 7) _ = _
              simp only [Act.put, List.setIfInBounds_toArray, List.set_cons_zero, List.set_cons_succ, i64_w, i32_w]
              rfl
            exact norm_ (by simp only [putAll, Act.put, List.setIfInBounds_toArray, List.set_cons_zero, List.set_cons_succ]) (hCont (v283) _ ⟨(by (with_reducible repeat (first | apply Kd.R_alloc | apply Kd.R_drewN | apply Kd.R_drew)); exact HO284.out), (by repeat (first | (with_reducible first | exact HB.out | apply below_alloc | apply pw_below_drewN | apply below_drew1) | exact HB.out))⟩)
      rintro v283 w10 ⟨h0_, h1_⟩
      have n0_ : Aside0 (Kd.R (Kd.int .u8) 5 w10 w.heap.size (fun _ => True) v283 y282) := ⟨h0_⟩
      have n1_ : Aside0 (Below w.heap.size w w10) := ⟨h1_⟩
      clear HB
      clear h0_ h1_
      have HO284 := n0_
      have HB := n1_
      clear n0_ n1_
      have hHeld := trivial
      refine norm_ (a' := ?_) ?_ ?_
      rotate_left
      · simp only [putAll, Act.put, List.setIfInBounds_toArray, List.set_cons_zero, List.set_cons_succ]
        rfl
      refine pure_ (i := 8) (N := some 13) (v := ?_) (a' := ?_) #[true, true, true, true, true, true, true, true, true, false] rfl rfl (any_of HT_.out (by kernel_rfl)) (fun _ _ _ h => h) (Or.inl ⟨by rfl, ?_⟩) ?_ ?_
      rotate_left
      · first | (intro w'; go_simp; with_reducible rfl) | (intro w'; refine Eq.trans (add_step (by rfl) (by rfl) (by rfl) (by assumption) w') ?_; with_reducible rfl) | (intro w'; refine Eq.trans (cut_hi_n Try.underlying9 (by rfl) (by rfl) (by rfl) (by first | assumption | exact of_eq_true (by assumption) | exact of_decide_eq_true (by assumption) | omega) w') ?_; with_reducible rfl) | (intro w'; refine Eq.trans (cut_hi Try.underlying9 (by rfl) (by rfl) (by rfl) (by first | assumption | exact of_eq_true (by assumption) | exact of_decide_eq_true (by assumption) | omega) (by first | assumption | exact of_eq_true (by assumption) | exact of_decide_eq_true (by assumption) | omega) w') ?_; with_reducible rfl) | (intro w'; refine Eq.trans (cut_lo Try.underlying9 (by rfl) (by rfl) (by rfl) (by first | assumption | exact of_eq_true (by assumption) | exact of_decide_eq_true (by assumption) | omega) (by first | assumption | exact of_eq_true (by assumption) | exact of_decide_eq_true (by assumption) | omega) w') ?_; with_reducible rfl) | (intro w'; refine Eq.trans (cut_both Try.underlying9 (by rfl) (by rfl) (by rfl) (by rfl) (by first | assumption | exact of_eq_true (by assumption) | exact of_decide_eq_true (by assumption) | omega) (by first | assumption | exact of_eq_true (by assumption) | exact of_decide_eq_true (by assumption) | omega) (by first | assumption | exact of_eq_true (by assumption) | exact of_decide_eq_true (by assumption) | omega) w') ?_; with_reducible rfl)
      rotate_left
      · simp only [Act.put, List.setIfInBounds_toArray, List.set_cons_zero, List.set_cons_succ, i64_w, i32_w]
        rfl
      refine pure_ (i := 9) (N := some 2) (v := ?_) (a' := ?_) #[true, true, true, true, true, true, true, true, true, true] rfl rfl (any_of HT_.out (by kernel_rfl)) (fun _ _ _ h => h) (Or.inl ⟨by rfl, ?_⟩) ?_ ?_
      rotate_left
      · first | (intro w'; go_simp; with_reducible rfl) | (intro w'; refine Eq.trans (add_step (by rfl) (by rfl) (by rfl) (by assumption) w') ?_; with_reducible rfl) | (intro w'; refine Eq.trans (cut_hi_n Try.underlying9 (by rfl) (by rfl) (by rfl) (by first | assumption | exact of_eq_true (by assumption) | exact of_decide_eq_true (by assumption) | omega) w') ?_; with_reducible rfl) | (intro w'; refine Eq.trans (cut_hi Try.underlying9 (by rfl) (by rfl) (by rfl) (by first | assumption | exact of_eq_true (by assumption) | exact of_decide_eq_true (by assumption) | omega) (by first | assumption | exact of_eq_true (by assumption) | exact of_decide_eq_true (by assumption) | omega) w') ?_; with_reducible rfl) | (intro w'; refine Eq.trans (cut_lo Try.underlying9 (by rfl) (by rfl) (by rfl) (by first | assumption | exact of_eq_true (by assumption) | exact of_decide_eq_true (by assumption) | omega) (by first | assumption | exact of_eq_true (by assumption) | exact of_decide_eq_true (by assumption) | omega) w') ?_; with_reducible rfl) | (intro w'; refine Eq.trans (cut_both Try.underlying9 (by rfl) (by rfl) (by rfl) (by rfl) (by first | assumption | exact of_eq_true (by assumption) | exact of_decide_eq_true (by assumption) | omega) (by first | assumption | exact of_eq_true (by assumption) | exact of_decide_eq_true (by assumption) | omega) (by first | assumption | exact of_eq_true (by assumption) | exact of_decide_eq_true (by assumption) | omega) w') ?_; with_reducible rfl)
      rotate_left
      · simp only [Act.put, List.setIfInBounds_toArray, List.set_cons_zero, List.set_cons_succ, i64_w, i32_w]
        rfl
      refine done_ (done_of HT_.out (by kernel_rfl)) ?_
      try go_wp2
      go_ret
      exact ⟨by first | rfl | (simp [errW_none, errW_some] <;> rfl) | (simp [*, errW_none, errW_some] <;> rfl), by repeat (first | (with_reducible first | exact HB.out | apply below_alloc | apply pw_below_drewN | apply below_drew1) | exact HB.out)⟩
    · rw [if_neg c4] at H
      exact absurd H (by simp)

/-! ### tarnref01_Put: function 93 -/
def tarnref01_Put.f (k : Nat) (a0 : Int) : Option (ByteArray) := (tarnref01_High.f k a0).bind fun t285 => ((some (([((t285.size : Int)) % 256] : List Int) : List Int)).bind fun y286 => (if (strOfNums y286).size + t285.size ≤ 9223372036854775807 then (some ((strOfNums y286) ++ t285)) else (none)))
theorem tarnref01_Put.mono : ∀ a0 k, LeO (tarnref01_Put.f k a0) (tarnref01_Put.f (k + 1) a0) := by
  intro a0 k
  unfold tarnref01_Put.f
  repeat' first
      | (with_reducible exact tarnref01_High.mono _ _)
      | (with_reducible exact LeO.refl _)
      | (with_reducible exact LeO.none _)
      | (with_reducible refine LeO.ite ?_ ?_)
      | (with_reducible refine LeO.bind ?_ (fun _ => ?_))
      | exact tarnref01_High.mono _ _
      | exact LeO.none _
      | refine LeO.ite ?_ ?_
      | refine LeO.bind ?_ (fun _ => ?_)
set_option maxHeartbeats 3000000 in
set_option maxRecDepth 100000 in
theorem tarnref01_Put.calls (k : Nat) (a0 : Int) (r : ByteArray) (w : World) (h : tarnref01_Put.f k a0 = some r) :
    Calls Try.prog 93 #[.int .u64 a0] w fun e w' => e = .returned (.string r) ∧ Below w.heap.size w w' := by
  have HB := Aside0.mk (Below.refl w.heap.size w)
  have H : ((tarnref01_High.f k a0).bind fun t285 => ((some (([((t285.size : Int)) % 256] : List Int) : List Int)).bind fun y286 => (if (strOfNums y286).size + t285.size ≤ 9223372036854775807 then (some ((strOfNums y286) ++ t285)) else (none)))) = some r := h
  clear h
  replace H := Option.bind_eq_some_iff.mp H
  obtain ⟨t285, A20, H⟩ := H
  replace H : ((some (([((t285.size : Int)) % 256] : List Int) : List Int)).bind fun y286 => (if (strOfNums y286).size + t285.size ≤ 9223372036854775807 then (some ((strOfNums y286) ++ t285)) else (none))) = some r := H
  have A2 := Aside0.mk A20
  clear A20
  obtain ⟨y286, hy286⟩ : ∃ y_ : List Int, y_ = (([((t285.size : Int)) % 256] : List Int)) := ⟨_, rfl⟩
  replace H : (if (strOfNums y286).size + t285.size ≤ 9223372036854775807 then (some ((strOfNums y286) ++ t285)) else (none)) = some r := by first | (rw [hy286]; with_reducible exact H) | (have H2_ := (Option.bind_some _ _).symm.trans H; rw [hy286]; with_reducible exact H2_) | (have H2_ := (Option.bind_some _ _).symm.trans H; with_reducible exact H2_) | with_reducible exact H | (rw [hy286]; exact H) | exact H
  have Ny286 := Aside0.mk hy286
  clear hy286
  by_cases c3 : (strOfNums y286).size + t285.size ≤ 9223372036854775807
  · rw [if_pos c3] at H
    have c3b0 := eq_true c3
    have c3b1 : decide ((strOfNums y286).size + t285.size ≤ 9223372036854775807) = true := decide_eq_true c3
    try have c3b2 : (9223372036854775807 < (strOfNums y286).size + t285.size) = False := eq_false (Nat.not_lt.2 c3)
    try have c3b3 : ∀ W_ : World, (Op.stringOp .add (strOfNums y286) t285).run Try.prog W_ = .ok (.string ((strOfNums y286) ++ t285)) W_ := fun W_ => run_string_add_sum W_ _ _ (by first | exact c3 | simpa using c3)
    obtain rfl := Option.some.inj H
    go_enter Try.func93, Try.ntmps93
    go_wp2_with (first | ((with_reducible refine gate_callee (f := 108) rfl ?_); refine goesL_ (some 5) rfl rfl Try.func108 (by kernel_rfl) rfl #[.int .u64 a0] rfl (by (try simp only [List.map_toArray, List.map_cons, List.map_nil]); first | done | rfl | (simp only [List.length_drop, List.length_take]; rfl)) ?_; (with_reducible refine (tarnref01_High.calls k a0 t285 _ A2.out).mono ?_); rintro e w4 ⟨rfl, hb⟩; refine ⟨_, rfl, ?_⟩; have n0_ := Aside0.mk (below_step (by repeat (first | (with_reducible first | exact HB.out | apply below_alloc | apply pw_below_drewN | apply below_drew1) | exact HB.out)) hb); clear HB; have HB := n0_; clear n0_; (try clear hb); (try clear hb2); (try clear hk); (try clear hi)) | ((with_reducible refine gate_dst (N := 9) rfl ?_); refine Kd.R_lit (Kd.int .u8) _ 5 ?hg (N := 9) ?hd (xs := ([((t285.size : Int)) % 256] : List Int)) (inner := [.int .u8 (((t285.size : Int)) % 256)]) (ok := fun _ => True) (okp := fun _ => True) ?hr ?hp (fun _ hk => hk) trivial (Below.refl _ _) (Nat.le_refl _) (by simp) ?_; (case hd => rfl); (case hg => rfl); (case hr => first | (go_simp; done) | (go_simp; rfl)); (case hp => exact (Reps.one (show Kd.M (Kd.int .u8) _ _ _ (((t285.size : Int)) % 256) [.int .u8 (((t285.size : Int)) % 256)] from rfl) (Reps.none _ _))); intro v287 w5 ho6 hb hg_ hnew_; clear hg_ hnew_; (first | rw [← Ny286.out] at ho6 | (simp only [Int.reduceToNat] at ho6; rw [← Ny286.out] at ho6)); have n0_ := Aside0.mk (Kd.R_lower ho6 (below_size (by repeat (first | (with_reducible first | exact HB.out | apply below_alloc | apply pw_below_drewN | apply below_drew1) | exact HB.out)))); have n1_ := Aside0.mk (below_step (by repeat (first | (with_reducible first | exact HB.out | apply below_alloc | apply pw_below_drewN | apply below_drew1) | exact HB.out)) hb); clear HB; have HO288 := n0_; have HB := n1_; clear n0_ n1_; clear hb ho6; have hcv7 := own_string (P := Try.prog) Try.underlying108 Try.underlying5 Try.underlying9 (Kd.own_of_R HO288.out)))
    go_ret
    exact ⟨by first | rfl | (simp [errW_none, errW_some] <;> rfl) | (simp [*, errW_none, errW_some] <;> rfl), by repeat (first | (with_reducible first | exact HB.out | apply below_alloc | apply pw_below_drewN | apply below_drew1) | exact HB.out)⟩
  · rw [if_neg c3] at H
    exact absurd H (by simp)

/-! ### tarnref01_List: function 67 -/
def tarnref01_List.l0 : Nat → List Int → ByteArray → Int → Option (ByteArray)
  | 0, _, _, _ => none
  | k + 1, x0, x3, x4 => if x4 < (x0.length : Int) then (if 0 ≤ x4 then (if (rd x0 x4) < 0 then ((tarnref01_Put.f k 0).bind fun t291 => (if x3.size + t291.size ≤ 9223372036854775807 then (tarnref01_List.l0 k x0 (x3 ++ t291) (wrap64 (x4 + 1))) else (none))) else ((tarnref01_Put.f k (IntKind.u64.wrap (rd x0 x4))).bind fun t293 => (if x3.size + t293.size ≤ 9223372036854775807 then (tarnref01_List.l0 k x0 (x3 ++ t293) (wrap64 (x4 + 1))) else (none)))) else (none)) else (some x3)
def tarnref01_List.f (k : Nat) (l0 : List Int) : Option (ByteArray) := (tarnref01_Put.f k (IntKind.u64.wrap ((l0.length : Int)))).bind fun t289 => (tarnref01_List.l0 k l0 t289 0)
theorem tarnref01_List.mono_l : ∀ k, (∀ y0 y1 y2, LeO (tarnref01_List.l0 k y0 y1 y2) (tarnref01_List.l0 (k + 1) y0 y1 y2))
  | 0 => fun _ _ _ r h => by simp [tarnref01_List.l0] at h
  | k + 1 => by
    have ih0 := tarnref01_List.mono_l k
    · intro y0 y1 y2
      unfold tarnref01_List.l0
      repeat' first
      | (with_reducible exact ih0 _ _ _)
      | (with_reducible exact tarnref01_Put.mono _ _)
      | (with_reducible exact LeO.refl _)
      | (with_reducible exact LeO.none _)
      | (with_reducible refine LeO.ite ?_ ?_)
      | (with_reducible refine LeO.bind ?_ (fun _ => ?_))
      | exact ih0 _ _ _
      | exact tarnref01_Put.mono _ _
      | exact LeO.none _
      | refine LeO.ite ?_ ?_
      | refine LeO.bind ?_ (fun _ => ?_)
theorem tarnref01_List.mono : ∀ a0 k, LeO (tarnref01_List.f k a0) (tarnref01_List.f (k + 1) a0) := by
  intro a0 k
  have ih0 := tarnref01_List.mono_l k
  unfold tarnref01_List.f
  repeat' first
      | (with_reducible exact ih0 _ _ _)
      | (with_reducible exact tarnref01_Put.mono _ _)
      | (with_reducible exact LeO.refl _)
      | (with_reducible exact LeO.none _)
      | (with_reducible refine LeO.ite ?_ ?_)
      | (with_reducible refine LeO.bind ?_ (fun _ => ?_))
      | exact ih0 _ _ _
      | exact tarnref01_Put.mono _ _
      | exact LeO.none _
      | refine LeO.ite ?_ ?_
      | refine LeO.bind ?_ (fun _ => ?_)
set_option maxHeartbeats 3000000 in
set_option maxRecDepth 100000 in
theorem tarnref01_List.calls (k : Nat) (A0 : Option Addr) (c0 : Nat) (l0 : List Int) (r : ByteArray) (w : World) (hr0 : Kd.C (Kd.int .i64) w A0 l0.length l0) (hc0 : l0.length ≤ c0) (h : tarnref01_List.f k l0 = some r) :
    Calls Try.prog 67 #[.slice A0 l0.length c0] w fun e w' => e = .returned (.string r) ∧ Below w.heap.size w w' := by
  have HR0 := Aside0.mk hr0
  have HC0 := Aside0.mk hc0
  clear hr0 hc0
  have HB := Aside0.mk (Below.refl w.heap.size w)
  have H : ((tarnref01_Put.f k (IntKind.u64.wrap ((l0.length : Int)))).bind fun t289 => (tarnref01_List.l0 k l0 t289 0)) = some r := h
  clear h
  replace H := Option.bind_eq_some_iff.mp H
  obtain ⟨t289, A20, H⟩ := H
  replace H : (tarnref01_List.l0 k l0 t289 0) = some r := H
  have A2 := Aside0.mk A20
  clear A20
  have H' := Aside0.mk H
  clear H
  go_enter Try.func67, Try.ntmps67
  go_wp2_with (first | ((with_reducible refine gate_callee (f := 93) rfl ?_); refine goesL_ (some 8) rfl rfl Try.func93 (by kernel_rfl) rfl #[.int .u64 (IntKind.u64.wrap ((l0.length : Int)))] rfl (by (try simp only [List.map_toArray, List.map_cons, List.map_nil]); first | done | rfl | (simp only [List.length_drop, List.length_take]; rfl) | (exact congrArg List.toArray (congr (congrArg List.cons (congrArg (Value.int .u64) (by simp only [wrap64, wrap32]; omega))) rfl))) ?_; (with_reducible refine (tarnref01_Put.calls k (IntKind.u64.wrap ((l0.length : Int))) t289 _ A2.out).mono ?_); rintro e w3 ⟨rfl, hb⟩; refine ⟨_, rfl, ?_⟩; have n0_ := Aside0.mk (below_step (by repeat (first | (with_reducible first | exact HB.out | apply below_alloc | apply pw_below_drewN | apply below_drew1) | exact HB.out)) hb); clear HB; have HB := n0_; clear n0_; (try clear hb); (try clear hb2); (try clear hk); (try clear hi)))
  go_loopg [3, 4] k (fun kq v3 v4 w' => ∃ (x3_1 : ByteArray) (x4_1 : Int), v3 = .string x3_1 ∧ v4 = .int .i64 x4_1 ∧ Aside0 (tarnref01_List.l0 kq l0 x3_1 x4_1 = some r) ∧ Aside0 (kq ≤ k) ∧ Aside0 (Below w.heap.size w w'))
  case atStart => exact ⟨(t289), (0), (by first | rfl | (simp; done) | (simp [*]; done)), (by first | rfl | (simp; done) | (simp [*]; done)), H', ⟨Nat.le_refl _⟩, ⟨by repeat (first | (with_reducible first | exact HB.out | apply below_alloc | apply pw_below_drewN | apply below_drew1) | exact HB.out)⟩⟩
  case round =>
    clear H'
    try clear p2
    try clear p3
    obtain ⟨x3_1, x4_1, rfl, rfl, HA, HK1, HB⟩ := hrel
    cases gk with
    | zero => exact absurd HA.out (by simp [tarnref01_List.l0])
    | succ k1 =>
      have H := HA.out
      clear HA
      simp only [tarnref01_List.l0] at H
      by_cases c4 : x4_1 < (l0.length : Int)
      · rw [if_pos c4] at H
        have c4b0 : decide (x4_1 < (l0.length : Int)) = true := decide_eq_true c4
        clear c4
        by_cases c5 : 0 ≤ x4_1
        · rw [if_pos c5] at H
          have c5b0 : decide (0 ≤ x4_1) = true := decide_eq_true c5
          clear c5
          by_cases c6 : (rd l0 x4_1) < 0
          · rw [if_pos c6] at H
            have c6b0 : decide ((rd l0 x4_1) < 0) = true := decide_eq_true c6
            clear c6
            replace H := Option.bind_eq_some_iff.mp H
            obtain ⟨t291, A70, H⟩ := H
            replace H : (if x3_1.size + t291.size ≤ 9223372036854775807 then (tarnref01_List.l0 k1 l0 (x3_1 ++ t291) (wrap64 (x4_1 + 1))) else (none)) = some r := H
            have A7 := Aside0.mk A70
            clear A70
            by_cases c8 : x3_1.size + t291.size ≤ 9223372036854775807
            · rw [if_pos c8] at H
              have c8b0 := eq_true c8
              have c8b1 : decide (x3_1.size + t291.size ≤ 9223372036854775807) = true := decide_eq_true c8
              try have c8b2 : (9223372036854775807 < x3_1.size + t291.size) = False := eq_false (Nat.not_lt.2 c8)
              try have c8b3 : ∀ W_ : World, (Op.stringOp .add x3_1 t291).run Try.prog W_ = .ok (.string (x3_1 ++ t291)) W_ := fun W_ => run_string_add_sum W_ _ _ (by first | exact c8 | simpa using c8)
              have H' := Aside0.mk H
              clear H
              have p290 : 0 ≤ (x4_1 : Int) := of_decide_eq_true (by first | (with_reducible assumption) | assumption)
              have q290 : x4_1 < (l0.length : Int) := of_decide_eq_true (by first | (with_reducible assumption) | assumption)
              obtain ⟨ad290, e290, hx290_0⟩ := Kd.at_int HR0.out x4_1 p290 q290
              cases e290
              replace hx290_0 := (HB.out.cell (World.block_lt_of_cell? w _ hx290_0)).trans hx290_0
              replace p290 := eq_true p290
              replace q290 := eq_true q290
              go_wp2_with (first | ((with_reducible refine gate_callee (f := 93) rfl ?_); refine goesL_ (some 21) rfl rfl Try.func93 (by kernel_rfl) rfl #[.int .u64 0] rfl (by (try simp only [List.map_toArray, List.map_cons, List.map_nil]); first | done | rfl | (simp only [List.length_drop, List.length_take]; rfl)) ?_; (with_reducible refine (tarnref01_Put.calls k1 0 t291 _ A7.out).mono ?_); rintro e w9 ⟨rfl, hb⟩; refine ⟨_, rfl, ?_⟩; have n0_ := Aside0.mk (below_step (by repeat (first | (with_reducible first | exact HB.out | apply below_alloc | apply pw_below_drewN | apply below_drew1) | exact HB.out)) hb); clear HB; have HB := n0_; clear n0_; (try clear hb); (try clear hb2); (try clear hk); (try clear hi)))
              go_roundg k1
              case measure => have := HK1.out; omega
              case rel => exact ⟨(x3_1 ++ t291), (wrap64 (x4_1 + 1)), (by first | rfl | (simp; done) | (simp [*]; done)), (by first | rfl | (simp; done) | (simp [*]; done)), H', ⟨by have := HK1.out; omega⟩, ⟨by repeat (first | (with_reducible first | exact HB.out | apply below_alloc | apply pw_below_drewN | apply below_drew1) | exact HB.out)⟩⟩
            · rw [if_neg c8] at H
              exact absurd H (by simp)
          · rw [if_neg c6] at H
            have c6b0 : decide ((rd l0 x4_1) < 0) = false := decide_eq_false c6
            clear c6
            replace H := Option.bind_eq_some_iff.mp H
            obtain ⟨t293, A100, H⟩ := H
            replace H : (if x3_1.size + t293.size ≤ 9223372036854775807 then (tarnref01_List.l0 k1 l0 (x3_1 ++ t293) (wrap64 (x4_1 + 1))) else (none)) = some r := H
            have A10 := Aside0.mk A100
            clear A100
            by_cases c11 : x3_1.size + t293.size ≤ 9223372036854775807
            · rw [if_pos c11] at H
              have c11b0 := eq_true c11
              have c11b1 : decide (x3_1.size + t293.size ≤ 9223372036854775807) = true := decide_eq_true c11
              try have c11b2 : (9223372036854775807 < x3_1.size + t293.size) = False := eq_false (Nat.not_lt.2 c11)
              try have c11b3 : ∀ W_ : World, (Op.stringOp .add x3_1 t293).run Try.prog W_ = .ok (.string (x3_1 ++ t293)) W_ := fun W_ => run_string_add_sum W_ _ _ (by first | exact c11 | simpa using c11)
              have H' := Aside0.mk H
              clear H
              have p290 : 0 ≤ (x4_1 : Int) := of_decide_eq_true (by first | (with_reducible assumption) | assumption)
              have q290 : x4_1 < (l0.length : Int) := of_decide_eq_true (by first | (with_reducible assumption) | assumption)
              obtain ⟨ad290, e290, hx290_0⟩ := Kd.at_int HR0.out x4_1 p290 q290
              cases e290
              replace hx290_0 := (HB.out.cell (World.block_lt_of_cell? w _ hx290_0)).trans hx290_0
              replace p290 := eq_true p290
              replace q290 := eq_true q290
              have p292 : 0 ≤ (x4_1 : Int) := of_decide_eq_true (by first | (with_reducible assumption) | assumption)
              have q292 : x4_1 < (l0.length : Int) := of_decide_eq_true (by first | (with_reducible assumption) | assumption)
              obtain ⟨ad292, e292, hx292_0⟩ := Kd.at_int HR0.out x4_1 p292 q292
              obtain rfl : ad290 = ad292 := (by injection e292)
              replace hx292_0 := (HB.out.cell (World.block_lt_of_cell? w _ hx292_0)).trans hx292_0
              replace p292 := eq_true p292
              replace q292 := eq_true q292
              go_wp2_with (first | ((with_reducible refine gate_callee (f := 93) rfl ?_); refine goesL_ (some 29) rfl rfl Try.func93 (by kernel_rfl) rfl #[.int .u64 (IntKind.u64.wrap (rd l0 x4_1))] rfl (by (try simp only [List.map_toArray, List.map_cons, List.map_nil]); first | done | rfl | (simp only [List.length_drop, List.length_take]; rfl) | (exact congrArg List.toArray (congr (congrArg List.cons (congrArg (Value.int .u64) (by simp only [wrap64, wrap32]; omega))) rfl))) ?_; (with_reducible refine (tarnref01_Put.calls k1 (IntKind.u64.wrap (rd l0 x4_1)) t293 _ A10.out).mono ?_); rintro e w12 ⟨rfl, hb⟩; refine ⟨_, rfl, ?_⟩; have n0_ := Aside0.mk (below_step (by repeat (first | (with_reducible first | exact HB.out | apply below_alloc | apply pw_below_drewN | apply below_drew1) | exact HB.out)) hb); clear HB; have HB := n0_; clear n0_; (try clear hb); (try clear hb2); (try clear hk); (try clear hi)))
              go_roundg k1
              case measure => have := HK1.out; omega
              case rel => exact ⟨(x3_1 ++ t293), (wrap64 (x4_1 + 1)), (by first | rfl | (simp; done) | (simp [*]; done)), (by first | rfl | (simp; done) | (simp [*]; done)), H', ⟨by have := HK1.out; omega⟩, ⟨by repeat (first | (with_reducible first | exact HB.out | apply below_alloc | apply pw_below_drewN | apply below_drew1) | exact HB.out)⟩⟩
            · rw [if_neg c11] at H
              exact absurd H (by simp)
        · rw [if_neg c5] at H
          exact absurd H (by simp)
      · rw [if_neg c4] at H
        have c4b0 : decide (x4_1 < (l0.length : Int)) = false := decide_eq_false c4
        clear c4
        obtain rfl := Option.some.inj H
        go_wp2
        go_ret
        exact ⟨by first | rfl | (simp [errW_none, errW_some] <;> rfl) | (simp [*, errW_none, errW_some] <;> rfl), by repeat (first | (with_reducible first | exact HB.out | apply below_alloc | apply pw_below_drewN | apply below_drew1) | exact HB.out)⟩

end Go.Proofs.Ytjjcfipnainpiab.PPuts
