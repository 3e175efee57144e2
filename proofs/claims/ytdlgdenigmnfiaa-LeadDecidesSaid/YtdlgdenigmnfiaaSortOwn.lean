/- slices.Sort of a row of the call's own. -/
import Derived.Test.YtdlgdenigmnfiaaProg
import Derived.Test.YtdlgdenigmnfiaaXGen
import Derived.Test.YtdlgdenigmnfiaaWWords
import Derived.Test.YtdlgdenigmnfiaaWMore
import Derived.Shelf.SortM.Plain
import Derived.Sort.OwnSortedInts
import Derived.Lib.OwnBridge
import Derived.Lib.Hide
namespace Go.Proofs.Ytdlgdenigmnfiaa.X
set_option linter.unusedVariables false
set_option linter.unusedSimpArgs false
open Go.RowKit Go.Shelf Go.Proofs Go.Sort Go.Proofs.YtdlgdenigmnfiaaW.PrintWords Go.Proofs.YtdlgdenigmnfiaaW.PrintLast Go.Proofs.YtdlgdenigmnfiaaW.PrintMore

theorem sort_own0 (B : Nat) (W : World) (v : Value) (zs : List Int) (hR : Kd.R (Kd.int .i64) 3 W B (fun _ => True) v zs) (hp : 0 < zs.length) (hl : zs.length ≤ 1000) :
    Calls Try.prog 38 #[v] W fun e W' => e = .returned (.tuple #[]) ∧ Kd.R (Kd.int .i64) 3 W' B (fun _ => True) v (zs.mergeSort fun x y => decide (x ≤ y)) ∧ ∀ w, Below B w W → B ≤ W.heap.size → Below B w W' := by
  have hown := Kd.own_of_R hR
  rcases hown.2 with ⟨_, h0⟩ | ⟨g, cap, cur, rfl, hgB, hcur, hncap, hmax, hsz, htake⟩
  · omega
  have hg3 : g < W.heap.size := (Array.getElem?_eq_some_iff.1 hcur).1
  rw [Nat.mul_one] at htake
  refine (AnyM.slices_Sort_int sort_int g 0 cap zs W (holds_of_blockI hcur htake) hg3 (by omega)).mono ?_
  rintro e W4 ⟨rfl, q, os, rfl⟩
  have htl : (zs.mergeSort fun x y => decide (x ≤ y)).length = zs.length := List.length_mergeSort _
  have ho := ownsRow_sortedI (n := q) (os := os) (ss := zs) (ts := zs.mergeSort fun x y => decide (x ≤ y)) (base := B) htl hgB hcur hncap hmax hsz
  refine ⟨rfl, Kd.R_of_own (enc := Value.int .i64) ?_ (fun _ _ => trivial), fun w hb hs => ?_⟩
  · rw [htl]; exact ho
  · exact pw_below_grown hb (some g) hs (grownBy_sortedI _) (fun k hk => by injection hk with hk; omega)
end Go.Proofs.Ytdlgdenigmnfiaa.X
