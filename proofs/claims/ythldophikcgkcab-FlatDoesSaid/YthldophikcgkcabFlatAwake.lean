/- tarnlaw35: awake. -/
import Derived.Test.YthldophikcgkcabFlatBytes
namespace Go.Proofs.Ythldophikcgkcab.Y
set_option linter.unusedVariables false
set_option linter.unusedSimpArgs false
open Go.RowKit Go.Proofs Go.IntWalk Go.Proofs.YthldophikcgkcabW.PrintWords Go.Proofs.YthldophikcgkcabW.PrintLast Go.Proofs.YthldophikcgkcabW.PrintMore Go.Proofs.Ythldophikcgkcab.X Go.Proofs.Ythldophikcgkcab.PFlat

def dat : ByteArray := ⟨#[48, 49, 50, 51, 52, 53, 54, 55, 56, 57, 97, 98, 99, 100, 101, 102, 48, 49, 50, 51, 52, 53, 54, 55, 56, 57, 97, 98, 99, 100, 101, 102]⟩
theorem run_w : run (List.replicate 2 zeros) ⟨#[]⟩ (parts 1 32 0 dat 2) = ([zeros, dat], ⟨#[]⟩) := by kernel_rfl
theorem run_r : run [zeros, dat] ⟨#[]⟩ (parts 0 32 32 ⟨#[]⟩ 2) = ([zeros, dat], dat) := by kernel_rfl
theorem may_w : May 1 32 0 dat 2 := by decide
theorem may_r : May 0 32 32 ⟨#[]⟩ 2 := by decide
set_option maxHeartbeats 4000000 in
set_option maxRecDepth 100000 in
theorem awake_n (w : World) : Calls Try.prog 31 #[] w fun e w' => e = .returned (.bool true) ∧ Below w.heap.size w w' := by
  go_enter Try.func31, Try.ntmps31
  go_wp2_with fail
  refine (new_n w 2 (by omega)).mono ?_
  rintro e1 W1 ⟨g, v, rfl, hF, hb⟩
  have H1 := Lib.hid (And.intro hF hb)
  clear hF hb
  have HD := Lib.hid (do_n W1 g v (List.replicate 2 zeros) w.heap.size 1 1 32 0 dat false H1.out.1 (by simp) (fun x hx => by rw [List.eq_of_mem_replicate hx]; decide) (by unfold In; omega) (by unfold In; omega) (by decide))
  go_wp2_with fail
  refine HD.out.mono ?_
  rintro e2 W2 ⟨rfl, hF, hg⟩
  have e1 : ((List.replicate 2 zeros).length : Int) = 2 := rfl
  rw [e1, run_w] at hF
  rw [e1, run_w, if_pos may_w]
  have H2 := Lib.hid (And.intro hF (H1.out.2.grown hg H1.out.2.size (own_base H1.out.1.r)))
  clear hF hg H1 HD e1
  have hb3 := below_sets (Nat.le_refl _) [.int .i64 1, .int .i64 0, .string ⟨#[]⟩] 0 _ (below_alloc (Below.refl W2.heap.size W2) (.cells #[.int .i64 0, .int .i64 0, .string ⟨#[]⟩] 73))
  have hq3 : (sets (W2.alloc (.cells #[.int .i64 0, .int .i64 0, .string ⟨#[]⟩] 73)) W2.heap.size 0 [.int .i64 1, .int .i64 0, .string ⟨#[]⟩]).heap[W2.heap.size]? = some (.cells #[.int .i64 1, .int .i64 0, .string ⟨#[]⟩] 73 (0, 0)) := blk_sets [.int .i64 1, .int .i64 0, .string ⟨#[]⟩] 0 #[.int .i64 0, .int .i64 0, .string ⟨#[]⟩] _ (heap_alloc_new W2 (.cells #[.int .i64 0, .int .i64 0, .string ⟨#[]⟩] 73)) rfl
  have H3 := Lib.hid (And.intro (H2.out.1.below hb3) (And.intro (below_step H2.out.2 hb3) hq3))
  clear hb3 hq3
  go_upto_region 3 with (first | ((with_reducible apply wpList_store_sets (ty := 73) (g := W2.heap.size) (t := 73) (old := #[.int .i64 0, .int .i64 0, .string ⟨#[]⟩])); (case hgd => with_reducible rfl); (case ho => with_reducible rfl); (case hx => rfl); (case hy => rfl); (case hg => exact heap_alloc_new W2 _); (case hi => kernel_rfl); (case hold => kernel_rfl); (case h1 => kernel_rfl)) | fail)
  have HNE := Lib.hid (show W2.heap.size ≠ g ∧ some W2.heap.size ≠ v.ownBlock from ⟨fun e => by have := blk_lt H2.out.1.h; omega, fun e => by have := own_lt H2.out.1.r e.symm; omega⟩)
  clear H2
  change Code.wp _ _ _ _ (sets (W2.alloc (.cells #[.int .i64 0, .int .i64 0, .string ⟨#[]⟩] 73)) W2.heap.size 0 [.int .i64 1, .int .i64 0, .string ⟨#[]⟩])
  generalize sets (W2.alloc (.cells #[.int .i64 0, .int .i64 0, .string ⟨#[]⟩] 73)) W2.heap.size 0 [.int .i64 1, .int .i64 0, .string ⟨#[]⟩] = W3 at *
  have HD := Lib.hid (do_n W3 g v [zeros, dat] w.heap.size 2 0 32 32 ⟨#[]⟩ false H3.out.1 (by simp) (by intro x hx; simp at hx; rcases hx with rfl | rfl <;> decide) (by unfold In; omega) (by unfold In; omega) (by decide))
  go_wp2_with fail
  refine HD.out.mono ?_
  rintro e2 W4 ⟨rfl, hF, hg⟩
  have e1 : (([zeros, dat] : List ByteArray).length : Int) = 2 := rfl
  rw [e1, run_r] at hF
  rw [e1, run_r, if_pos may_r]
  have H4 := Lib.hid (And.intro (H3.out.2.1.grown hg H3.out.2.1.size (own_base H3.out.1.r)) ((hg.block _ (blk_lt H3.out.2.2) HNE.out.2).trans H3.out.2.2))
  clear hF hg H3 HD e1
  dsimp only
  have hb5 := below_sets (Nat.le_refl _) [.int .i64 2, .int .i64 0, .string dat] 0 _ (below_alloc (Below.refl W4.heap.size W4) (.cells #[.int .i64 0, .int .i64 0, .string ⟨#[]⟩] 73))
  have hq5 : (sets (W4.alloc (.cells #[.int .i64 0, .int .i64 0, .string ⟨#[]⟩] 73)) W4.heap.size 0 [.int .i64 2, .int .i64 0, .string dat]).heap[W4.heap.size]? = some (.cells #[.int .i64 2, .int .i64 0, .string dat] 73 (0, 0)) := blk_sets [.int .i64 2, .int .i64 0, .string dat] 0 #[.int .i64 0, .int .i64 0, .string ⟨#[]⟩] _ (heap_alloc_new W4 (.cells #[.int .i64 0, .int .i64 0, .string ⟨#[]⟩] 73)) rfl
  have H5 := Lib.hid (And.intro (below_step H4.out.1 hb5) (And.intro ((hb5.block _ (blk_lt H4.out.2)).trans H4.out.2) hq5))
  clear hb5 hq5 H4
  go_upto_region 4 with (first | ((with_reducible apply wpList_store_sets (ty := 73) (g := W4.heap.size) (t := 73) (old := #[.int .i64 0, .int .i64 0, .string ⟨#[]⟩])); (case hgd => with_reducible rfl); (case ho => with_reducible rfl); (case hx => rfl); (case hy => rfl); (case hg => exact heap_alloc_new W4 _); (case hi => kernel_rfl); (case hold => kernel_rfl); (case h1 => kernel_rfl)) | fail)
  change Code.wp _ _ _ _ (sets (W4.alloc (.cells #[.int .i64 0, .int .i64 0, .string ⟨#[]⟩] 73)) W4.heap.size 0 [.int .i64 2, .int .i64 0, .string dat])
  generalize sets (W4.alloc (.cells #[.int .i64 0, .int .i64 0, .string ⟨#[]⟩] 73)) W4.heap.size 0 [.int .i64 2, .int .i64 0, .string dat] = W5 at *
  have c1 := blk_cell H5.out.2.1 1
  have d2 := blk_cell H5.out.2.2 2
  have d0 := blk_cell H5.out.2.2 0
  unfold dat at d2
  go_wp2_with fail
  go_ret
  exact ⟨rfl, H5.out.1⟩
end Go.Proofs.Ythldophikcgkcab.Y
