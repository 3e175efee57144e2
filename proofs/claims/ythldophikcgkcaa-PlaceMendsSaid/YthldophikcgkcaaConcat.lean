/- slices.Concat of two rows of ints; conf.All: all nodes of a configuration, rising, each once. -/
import Derived.Test.YthldophikcgkcaaXGen
import Derived.Test.YthldophikcgkcaaWWords
import Derived.Test.YthldophikcgkcaaWMore
import Derived.Shelf.Spec.SlicesGrow
import Derived.Shelf.SlicesG.CompactI
import Derived.Sort.OwnSortedInts
import Derived.Lib.OwnBridge
import Derived.LoopTactic
import Derived.Lib.Hide
import Derived.Deep.OwnRows
namespace Go.Proofs.Ythldophikcgkcaa.X
open Go.RowKit Go.Shelf Go.Proofs Go.Proofs.YthldophikcgkcaaW.PrintWords Go.Proofs.YthldophikcgkcaaW.PrintLast Go.Proofs.YthldophikcgkcaaW.PrintMore Go.Sort

abbrev KI := Kd.int .i64
theorem infoI : (Try.prog.info? 3).map (fun i => (i.zero, i.size, i.bytes)) = some (some (.int .i64 0), 1, 8) := by kernel_rfl
theorem grow_nil (W : World) (n : Nat) (h0 : 0 < n) (h1 : n ≤ 1000) : Calls Try.prog 71 #[.slice none 0 0, .int .i64 (n : Int)] W fun e w' =>
    ∃ v, e = .returned v ∧ Kd.R KI 3 w' W.heap.size (fun _ => True) v [] ∧ Below W.heap.size W w' := by
  obtain ⟨i0, hi, hzz⟩ := Option.map_eq_some_iff.1 infoI
  simp only [Prod.mk.injEq] at hzz
  obtain ⟨hz0, hz1, hz2⟩ := hzz
  refine (Any8.slices_Grow_grow grow_int i0 (.int .i64 0) hi hz0 (by omega) none 0 0 n [] W (by omega) (by omega) (by rw [hz2]; omega) (by omega) (by simp) (fun _ => rfl) (fun a ha => by cases ha)).mono ?_
  rintro e w' ⟨rfl, rfl⟩
  have hG := grownCap_le_maxLen W n 0 3 (by unfold maxLen; omega)
  have hge := grownCap_ge W n 0 3
  refine ⟨_, rfl, Kd.R_of_own (enc := Value.int .i64) ?_ (fun _ _ => trivial), ?_⟩
  · have := World.ownsRow_made (base := W.heap.size) (e := 3) (size := 1) W.drew (([] : List Value).toArray ++ Builtin.zeroCells (Value.cells (.int .i64 0)) (0 + n - 0) ++ Builtin.zeroCells (Value.cells (.int .i64 0)) (grownCap W (0 + n) 0 3 - (0 + n))) (grownCap W (0 + n) 0 3) (Nat.le_refl _) (by simpa using hG) (by
      simp only [Array.size_append, size_zeroCells, Nat.zero_add]
      simp [Value.cells]
      omega)
    exact this
  · exact below_alloc (Below.drew (Below.refl _ _)) _
set_option maxHeartbeats 4000000 in
set_option maxRecDepth 100000 in
theorem concat_two (W : World) (g : Nat) (A1 A2 : Option Addr) (c1 c2 : Nat) (l1 l2 : List Int) (T : TypeId) (hb : W.heap[g]? = some (.cells #[.slice A1 l1.length c1, .slice A2 l2.length c2] T (0, 0)))
    (h1 : Kd.C KI W A1 l1.length l1) (h2 : Kd.C KI W A2 l2.length l2) (hp : 0 < l1.length + l2.length) (hl : l1.length + l2.length ≤ 1000) :
    Calls Try.prog 60 #[.slice (some ⟨g, 0, none⟩) 2 2] W fun e w' => ∃ v, e = .returned v ∧ Kd.R KI 3 w' W.heap.size (fun _ => True) v (l1 ++ l2) ∧ Below W.heap.size W w' := by
  have hc0 : W.cell? ⟨g, 0, none⟩ = some (.slice A1 l1.length c1) := by simp [World.cell?, hb]
  have hc1 : W.cell? ⟨g, 1, none⟩ = some (.slice A2 l2.length c2) := by simp [World.cell?, hb]
  have hgs : g < W.heap.size := (Array.getElem?_eq_some_iff.1 hb).1
  have H1 := Lib.hid h1
  have H2 := Lib.hid h2
  clear h1 h2
  go_enter Try.func60, Try.ntmps60
  go_wp2
  go_loopw [3, 11] (fun s i wr => ∃ k : Nat, k ≤ 2 ∧ i = .int .i64 k ∧ s = .int .i64 (((if 0 < k then l1.length else 0) + (if 1 < k then l2.length else 0) : Nat) : Int) ∧ wr = W) (fun _ i => fun _ => 2 - (intOf i).toNat)
  case atStart => exact ⟨0, by omega, rfl, rfl, rfl⟩
  case round =>
    obtain ⟨k, hk, rfl, rfl, hwr⟩ := hrel
    have hwr' := hwr.symm
    subst hwr'
    have hk' : k = 0 ∨ k = 1 ∨ k = 2 := by omega
    rcases hk' with rfl | rfl | rfl
    · go_wp2
      go_roundw
      case rel => exact ⟨1, by omega, by go_num, by go_num, by first | rfl | trivial⟩
      case measure => simp [intOf]
    · go_wp2
      go_roundw
      case rel => exact ⟨2, by omega, by go_num, by go_num, by first | rfl | trivial⟩
      case measure => simp [intOf]
    · go_wp2_with fail
      refine (grow_nil W (l1.length + l2.length) hp hl).mono ?_
      rintro e W1 ⟨v, rfl, HR, HB⟩
      go_wp2
      go_loopw [6, 27] (fun v i w1 => ∃ k : Nat, k ≤ 2 ∧ i = .int .i64 k ∧ Kd.R KI 3 w1 W.heap.size (fun _ => True) v ((if 0 < k then l1 else []) ++ (if 1 < k then l2 else [])) ∧ Below W.heap.size W w1) (fun _ i => fun _ => 2 - (intOf i).toNat)
      case atStart => exact ⟨0, by omega, rfl, HR, HB⟩
      case round =>
        obtain ⟨k, hk, rfl, HRr, HBr⟩ := hrel
        have hg0 : wr.cell? ⟨g, 0, none⟩ = some (.slice A1 l1.length c1) := by rw [← hc0]; simp [World.cell?, HBr.block g hgs]
        have hg1 : wr.cell? ⟨g, 1, none⟩ = some (.slice A2 l2.length c2) := by rw [← hc1]; simp [World.cell?, HBr.block g hgs]
        have hk' : k = 0 ∨ k = 1 ∨ k = 2 := by omega
        rcases hk' with rfl | rfl | rfl
        · have hC := Kd.C_below H1.out HBr
          replace HRr : Kd.R KI 3 wr W.heap.size (fun _ => True) u6 [] := by simpa using HRr
          go_wp2_with ((with_reducible refine gate_builtin (b := .append) (xs := #[.tmp 31, .tmp 32]) rfl ?_); at_builtin; refine Kd.R_append_row (Value.int .i64) 0 (w0 := W) W.heap.size rfl (.tmp 31) (.tmp 32) 22 3 (.int .i64 0) 8 rfl Try.underlying22 infoI rfl (by decide) u6 [] l1 A1 l1.length c1 (fun _ => True) rfl rfl (fun _ _ => trivial) HRr hC HBr HBr.size (by (try simp only [List.length_nil]); omega) ?_; intro v1 w1 HR1 HB1 _ _; clear hg0 hg1)
          go_roundw
          case rel => exact ⟨1, by omega, by go_num, (by show Kd.R KI 3 w1 W.heap.size (fun _ => True) v1 (l1 ++ []); rw [List.append_nil]; exact HR1), HB1⟩
          case measure => simp [intOf]
        · have hC := Kd.C_below H2.out HBr
          replace HRr : Kd.R KI 3 wr W.heap.size (fun _ => True) u6 l1 := by simpa using HRr
          go_wp2_with ((with_reducible refine gate_builtin (b := .append) (xs := #[.tmp 31, .tmp 32]) rfl ?_); at_builtin; refine Kd.R_append_row (Value.int .i64) 0 (w0 := W) W.heap.size rfl (.tmp 31) (.tmp 32) 22 3 (.int .i64 0) 8 rfl Try.underlying22 infoI rfl (by decide) u6 l1 l2 A2 l2.length c2 (fun _ => True) rfl rfl (fun _ _ => trivial) HRr hC HBr HBr.size (by (try simp only [List.length_nil]); omega) ?_; intro v1 w1 HR1 HB1 _ _; clear hg0 hg1)
          go_roundw
          case rel => exact ⟨2, by omega, by go_num, HR1, HB1⟩
          case measure => simp [intOf]
        · go_wp2
          go_ret
          exact ⟨u6, rfl, by simpa using HRr, HBr⟩
end Go.Proofs.Ythldophikcgkcaa.X
