/- place.rank where no node is up, and wherever. -/
import Derived.Test.YthldophikcgkcaaRank
namespace Go.Proofs.Ythldophikcgkcaa.X
set_option linter.unusedVariables false
set_option linter.unusedSimpArgs false
open Go.RowKit Go.Shelf Go.Proofs Go.Sort Go.Proofs.YthldophikcgkcaaW.PrintWords Go.Proofs.YthldophikcgkcaaW.PrintLast Go.Proofs.YthldophikcgkcaaW.PrintMore

set_option maxHeartbeats 2000000 in
set_option maxRecDepth 100000 in
theorem ins_none (f : Value) (w : World) : Calls Try.prog 83 #[.slice none 0 0, .int .i64 0, .int .i64 0, f] w fun e w' => e = .returned (.tuple #[]) ∧ w' = w := by
  go_enter Try.func83, Try.ntmps83
  go_wp2
  go_loopw [8] (fun v wr => v = .int .i64 1 ∧ wr = w) (fun _ => fun _ => 0)
  case atStart => exact ⟨rfl, rfl⟩
  case round =>
    obtain ⟨rfl, hw⟩ := hrel
    subst hw
    go_wp2
    go_end0
    exact ⟨rfl, rfl⟩
set_option maxHeartbeats 2000000 in
set_option maxRecDepth 100000 in
theorem stable_none (f : Value) (w : World) : Calls Try.prog 67 #[.slice none 0 0, .int .i64 0, f] w fun e w' => e = .returned (.tuple #[]) ∧ w' = w := by
  have HI := Lib.hid (ins_none f w)
  go_enter Try.func67, Try.ntmps67
  go_wp2
  go_loopw [7, 8] (fun va vb wr => va = .int .i64 0 ∧ vb = .int .i64 20 ∧ wr = w) (fun _ _ => fun _ => 0)
  case atStart => exact ⟨rfl, rfl, rfl⟩
  case round =>
    obtain ⟨rfl, rfl, hwr⟩ := hrel
    subst hwr
    go_wp2_with fail
    refine HI.out.mono ?_
    rintro e w' ⟨rfl, hw⟩
    subst hw
    go_wp2
    go_loopw [6] (fun vc wr => vc = .int .i64 20 ∧ wr = w') (fun _ => fun _ => 0)
    case atStart => exact ⟨rfl, rfl⟩
    case round =>
      obtain ⟨rfl, hwr2⟩ := hrel
      subst hwr2
      go_wp2
      go_end0
      exact ⟨rfl, rfl⟩
set_option maxHeartbeats 2000000 in
set_option maxRecDepth 100000 in
theorem sort_none (f : Value) (w : World) : Calls Try.prog 49 #[.slice none 0 0, f] w fun e w' => e = .returned (.tuple #[]) ∧ w' = w := by
  have HI := Lib.hid (stable_none f w)
  go_enter Try.func49, Try.ntmps49
  go_wp2_with fail
  refine HI.out.mono ?_
  rintro e w' ⟨rfl, hw⟩
  subst hw
  go_wp2
  go_end0
  exact ⟨rfl, rfl⟩
set_option maxHeartbeats 4000000 in
set_option maxRecDepth 100000 in
theorem rank_none (ld : Fin 5 → Int) (w : World) : Calls Try.prog 32 #[.agg #[.bool false, .bool false, .bool false, .bool false, .bool false], .agg (ldCells ld)] w fun e w' => e = .returned (.slice none 0 0) ∧ Below w.heap.size w w' := by
  have hb0 : Below w.heap.size w ((w.alloc (.cells #[.bool false, .bool false, .bool false, .bool false, .bool false] 25)).alloc (.cells (ldCells ld) 79)) := below_alloc (below_alloc (Below.refl _ _) _) _
  generalize ldCells ld = lc at *
  go_enter Try.func32, Try.ntmps32
  go_wp2
  generalize (w.alloc (.cells #[.bool false, .bool false, .bool false, .bool false, .bool false] 25)).alloc (.cells lc 79) = W0 at *
  go_loopw [5, 9] (fun v i wr => ∃ k : Nat, k ≤ 5 ∧ v = .slice none 0 0 ∧ i = .int .i64 (k : Int) ∧ wr = W0) (fun _ i => fun _ => 5 - (intOf i).toNat)
  case atStart => exact ⟨0, by omega, rfl, rfl, rfl⟩
  case round =>
    obtain ⟨k, hk, rfl, rfl, hw⟩ := hrel
    subst hw
    have hk' : k = 0 ∨ k = 1 ∨ k = 2 ∨ k = 3 ∨ k = 4 ∨ k = 5 := by omega
    rcases hk' with rfl | rfl | rfl | rfl | rfl | rfl
    · go_wp2_with ((with_reducible refine gate_dst (N := 12) rfl ?_); refine Kd.event_run (v := .bool false) (w1 := wr) rfl ?hr ?_; (case hr => first | rfl | kernel_rfl))
      go_roundw
      case rel => exact ⟨1, by omega, rfl, by go_num, by first | trivial | rfl⟩
      case measure => simp [intOf]
    · go_wp2_with ((with_reducible refine gate_dst (N := 12) rfl ?_); refine Kd.event_run (v := .bool false) (w1 := wr) rfl ?hr ?_; (case hr => first | rfl | kernel_rfl))
      go_roundw
      case rel => exact ⟨2, by omega, rfl, by go_num, by first | trivial | rfl⟩
      case measure => simp [intOf]
    · go_wp2_with ((with_reducible refine gate_dst (N := 12) rfl ?_); refine Kd.event_run (v := .bool false) (w1 := wr) rfl ?hr ?_; (case hr => first | rfl | kernel_rfl))
      go_roundw
      case rel => exact ⟨3, by omega, rfl, by go_num, by first | trivial | rfl⟩
      case measure => simp [intOf]
    · go_wp2_with ((with_reducible refine gate_dst (N := 12) rfl ?_); refine Kd.event_run (v := .bool false) (w1 := wr) rfl ?hr ?_; (case hr => first | rfl | kernel_rfl))
      go_roundw
      case rel => exact ⟨4, by omega, rfl, by go_num, by first | trivial | rfl⟩
      case measure => simp [intOf]
    · go_wp2_with ((with_reducible refine gate_dst (N := 12) rfl ?_); refine Kd.event_run (v := .bool false) (w1 := wr) rfl ?hr ?_; (case hr => first | rfl | kernel_rfl))
      go_roundw
      case rel => exact ⟨5, by omega, rfl, by go_num, by first | trivial | rfl⟩
      case measure => simp [intOf]
    · go_wp2_with fail
      refine (sort_none _ _).mono ?_
      rintro e w' ⟨rfl, hw⟩
      subst hw
      go_wp2
      go_ret
      exact ⟨rfl, hb0⟩
theorem rank_any (up : Fin 5 → Bool) (ld : Fin 5 → Int) (w : World) :
    Calls Try.prog 32 #[.agg (upCells up), .agg (ldCells ld)] w fun e w' => ∃ v, e = .returned v ∧ Kd.R KI 3 w' w.heap.size (fun _ => True) v (nums (rk up ld)) ∧ Below w.heap.size w w' := by
  by_cases h : upTo up 5 = []
  · have hf : ∀ k : Fin 5, up k = false := by
      intro k
      cases hk : up k with
      | false => rfl
      | true =>
        have : k ∈ upTo up 5 := by
          unfold upTo
          rw [List.mem_filter]
          refine ⟨?_, hk⟩
          show k ∈ ([0, 1, 2, 3, 4] : List (Fin 5))
          match k with
          | 0 => decide
          | 1 => decide
          | 2 => decide
          | 3 => decide
          | 4 => decide
        rw [h] at this
        exact absurd this (List.not_mem_nil)
    have hr : rk up ld = [] := by
      have := ins_size (ltOf (cmpN ld)) (upTo up 5).toArray 0 (upTo up 5).length
      rw [h] at this
      unfold rk
      rw [h]
      exact List.eq_nil_of_length_eq_zero (by simpa using this)
    have hu : upCells up = #[.bool false, .bool false, .bool false, .bool false, .bool false] := by
      unfold upCells
      rw [hf 0, hf 1, hf 2, hf 3, hf 4]
    rw [hu, hr]
    refine (rank_none ld w).mono ?_
    rintro e w' ⟨rfl, hb⟩
    exact ⟨_, rfl, Kd.R_nil _ _ _ _ _, hb⟩
  · exact rank_n up ld w h
end Go.Proofs.Ythldophikcgkcaa.X
