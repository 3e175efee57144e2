/- conf.All: all nodes of a configuration, rising, each once. -/
import Derived.Test.YtjjcfipnainpiabConcat
import Derived.Shelf.SortM.Plain
namespace Go.Proofs.Ytjjcfipnainpiab.X
open Go.RowKit Go.Shelf Go.Proofs Go.Proofs.YtjjcfipnainpiabW.PrintWords Go.Proofs.YtjjcfipnainpiabW.PrintLast Go.Proofs.YtjjcfipnainpiabW.PrintMore Go.Sort

/-- All numbers of two rows, rising, each once. -/
def allOf (a b : List Int) : List Int := Lib.compact ((a ++ b).mergeSort fun x y => decide (x ≤ y))
def conf_All.f (_a0_0 _a0_1 _a0_2 : Int) (l0_3 l0_4 : List Int) : Option (List Int) := if 0 < l0_3.length + l0_4.length then (if l0_3.length + l0_4.length ≤ 1000 then some (allOf l0_3 l0_4) else none) else none

theorem two_alloc (w : World) (X Y : Obj) : ((w.alloc X).alloc Y).heap[w.heap.size + 1]? = some Y := by
  have := heap_alloc_new (w.alloc X) Y
  simpa using this
/-- slices.Sort of a row of the call's own. -/
theorem sort_own (B : Nat) (W : World) (v : Value) (zs : List Int) (hR : Kd.R KI 3 W B (fun _ => True) v zs) (hp : 0 < zs.length) (hl : zs.length ≤ 1000) :
    Calls Try.prog 72 #[v] W fun e W' => e = .returned (.tuple #[]) ∧ Kd.R KI 3 W' B (fun _ => True) v (zs.mergeSort fun x y => decide (x ≤ y)) ∧ ∀ w, Below B w W → B ≤ W.heap.size → Below B w W' := by
  have hown := Kd.own_of_R hR
  rcases hown.2 with ⟨_, h0⟩ | ⟨g, cap, cur, rfl, hgB, hcur, hncap, hmax, hsz, htake⟩
  · omega
  have hg3 : g < W.heap.size := (Array.getElem?_eq_some_iff.1 hcur).1
  rw [Nat.mul_one] at htake
  refine (AnyM.slices_Sort_int sort_int g 0 cap zs W (holds_of_blockI hcur htake) hg3 (by omega)).mono ?_
  rintro e W4 ⟨rfl, q, os, rfl⟩
  have htl : (zs.mergeSort fun x y => decide (x ≤ y)).length = zs.length := List.length_mergeSort _
  have ho := ownsRow_sortedI (n := q) (os := os) (ss := zs) (ts := zs.mergeSort fun x y => decide (x ≤ y)) (base := B) htl hgB hcur hncap hmax hsz
  refine ⟨rfl, Kd.R_of_own (enc := Value.int .i64) ?_ (fun _ _ => trivial), fun w hb hs => ?_⟩
  · rw [htl]; exact ho
  · exact pw_below_grown hb (some g) hs (grownBy_sortedI _) (fun k hk => by injection hk with hk; omega)
/-- slices.Compact of a row of the call's own. -/
theorem compact_own (B : Nat) (W : World) (v : Value) (zs : List Int) (hR : Kd.R KI 3 W B (fun _ => True) v zs) (hp : 0 < zs.length) (hl : zs.length ≤ 1000) :
    Calls Try.prog 73 #[v] W fun e W' => ∃ v', e = .returned v' ∧ Kd.R KI 3 W' B (fun _ => True) v' (Lib.compact zs) ∧ ∀ w, Below B w W → Below B w W' := by
  have hown := Kd.own_of_R hR
  have hown' := hown
  rcases hown.2 with ⟨_, h0⟩ | ⟨g, cap, cur, rfl, hgB, hcur, hncap, hmax, hsz, htake⟩
  · omega
  rw [Nat.mul_one] at htake
  refine (AnyG.slices_Compact_int compact_int g 0 cap zs W (holds_of_blockI hcur htake) (by omega) (by omega)).mono ?_
  rintro e W5 ⟨rfl, q, rfl⟩
  have hcl : (Lib.compact zs).length ≤ zs.length := by
    unfold Lib.compact Lib.compactUpTo
    rw [List.length_map]
    exact Nat.le_trans (List.length_filter_le _ _) (by simp)
  have ho := Lib.ownsRow_putRow (q := q) (ys := Lib.compact zs ++ List.replicate (zs.length - (Lib.compact zs).length) 0) (k := (Lib.compact zs).length) hown' (by simp; omega) hcl
  rw [List.take_left] at ho
  exact ⟨_, rfl, Kd.R_of_own (enc := Value.int .i64) ho (fun _ _ => trivial), fun w hb => Lib.below_putRow hb hgB⟩

set_option maxHeartbeats 4000000 in
set_option maxRecDepth 100000 in
theorem all_two (A1 A2 : Option Addr) (c1 c2 : Nat) (l1 l2 : List Int) (a0 a1 a2 : Int) (w : World) (h1 : Kd.C KI w A1 l1.length l1) (h2 : Kd.C KI w A2 l2.length l2) (hp : 0 < l1.length + l2.length) (hl : l1.length + l2.length ≤ 1000) :
    Calls Try.prog 41 #[.agg #[.int .i64 a0, .int .i64 a1, .int .i64 a2, .slice A1 l1.length c1, .slice A2 l2.length c2]] w fun e w' => ∃ v, e = .returned v ∧ Kd.R KI 3 w' w.heap.size (fun _ => True) v (allOf l1 l2) ∧ Below w.heap.size w w' := by
  have H1 := Lib.hid h1
  have H2 := Lib.hid h2
  clear h1 h2
  go_enter Try.func41, Try.ntmps41
  go_wp2_with fail
  refine (concat_two _ (w.heap.size + 1) A1 A2 c1 c2 l1 l2 29 ?hb ?h1 ?h2 hp hl).mono ?_
  case hb => exact two_alloc _ _ _
  case h1 => exact Kd.C_below H1.out (below_alloc (below_alloc (Below.refl _ _) _) _)
  case h2 => exact Kd.C_below H2.out (below_alloc (below_alloc (Below.refl _ _) _) _)
  rintro e W3 ⟨v, rfl, HR, HB⟩
  have HB3 : Below w.heap.size w W3 := below_step (below_alloc (below_alloc (Below.refl _ _) _) _) HB
  replace HR := Kd.R_lower HR (base' := w.heap.size) (below_alloc (below_alloc (Below.refl w.heap.size w) _) _).size
  clear HB
  go_wp2_with fail
  refine (sort_own w.heap.size W3 v (l1 ++ l2) HR (by rw [List.length_append]; exact hp) (by rw [List.length_append]; exact hl)).mono ?_
  rintro e W4 ⟨rfl, HR4, HB4⟩
  replace HB4 := HB4 w HB3 HB3.size
  clear HR HB3
  go_wp2_with fail
  refine (compact_own w.heap.size W4 v _ HR4 (by rw [List.length_mergeSort, List.length_append]; exact hp) (by rw [List.length_mergeSort, List.length_append]; exact hl)).mono ?_
  rintro e W5 ⟨v5, rfl, HR5, HB5⟩
  replace HB5 := HB5 w HB4
  clear HR4 HB4
  go_wp2
  go_ret
  exact ⟨_, rfl, HR5, HB5⟩
theorem conf_All.calls (a0_0 a0_1 a0_2 : Int) (A0_3 : Option Addr) (c0_3 : Nat) (l0_3 : List Int) (A0_4 : Option Addr) (c0_4 : Nat) (l0_4 : List Int) (r : List Int) (w : World) (hr0_3 : Kd.C (Kd.int .i64) w A0_3 l0_3.length l0_3) (_hc0_3 : l0_3.length ≤ c0_3) (hr0_4 : Kd.C (Kd.int .i64) w A0_4 l0_4.length l0_4) (_hc0_4 : l0_4.length ≤ c0_4) (h : conf_All.f a0_0 a0_1 a0_2 l0_3 l0_4 = some r) :
    Calls Try.prog 41 #[.agg #[.int .i64 a0_0, .int .i64 a0_1, .int .i64 a0_2, .slice A0_3 l0_3.length c0_3, .slice A0_4 l0_4.length c0_4]] w fun e w' => ∃ v0_ : Value, e = .returned (v0_) ∧ Kd.R (Kd.int .i64) 3 w' w.heap.size (fun _ => True) v0_ r ∧ Below w.heap.size w w' := by
  unfold conf_All.f at h
  split at h
  · rename_i hp
    split at h
    · rename_i hl
      obtain rfl := Option.some.inj h
      exact all_two A0_3 A0_4 c0_3 c0_4 l0_3 l0_4 a0_0 a0_1 a0_2 w hr0_3 hr0_4 hp hl
    · cases h
  · cases h
end Go.Proofs.Ytjjcfipnainpiab.X
