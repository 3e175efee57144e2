/- tarnlaw35.FlatDoes: what the law holds. -/
import Derived.Test.YthldophikcgkcabFlatAwake
import Derived.Test.YthldophikcgkcabOpen
namespace Go.Proofs.Ythldophikcgkcab.Y
set_option linter.unusedVariables false
set_option linter.unusedSimpArgs false
open Go.RowKit Go.Proofs Go.IntWalk Go.Proofs.YthldophikcgkcabW.PrintWords Go.Proofs.YthldophikcgkcabW.PrintLast Go.Proofs.YthldophikcgkcabW.PrintMore Go.Proofs.Ythldophikcgkcab.X Go.Proofs.Ythldophikcgkcab.PFlat

set_option maxHeartbeats 4000000 in
set_option maxRecDepth 100000 in
theorem new_65 (w : World) : Calls Try.prog 26 #[.int .i64 65] w fun e w' => e = .returned (.pointer (some ⟨w.heap.size, 0, none⟩)) ∧ FI w' w.heap.size (.slice none 0 0) [] w.heap.size ∧ Below w.heap.size w w' := by
  have hb0 := below_alloc (Below.refl w.heap.size w) (.cells #[.slice none 0 0] 100)
  have hx0 := heap_alloc_new w (.cells #[.slice none 0 0] 100)
  have H0 := Lib.hid (And.intro (FI.mk (L := []) hx0 (World.ownsRow_nil _ w.heap.size _ _) (fun h => by cases h) (Nat.le_refl w.heap.size)) hb0)
  clear hb0 hx0
  go_enter Try.func26, Try.ntmps26
  go_wp2_with fail
  go_ret
  exact ⟨rfl, H0.out.1, H0.out.2⟩
theorem ref_new_l (n : Nat) (hn : n ≤ 32) : ∀ (j i : Nat), i + j = n → ∀ k, j + 1 ≤ k → tarnref35_New.l0 k (n : Int) (i : Int) (List.replicate i zeros) = some (List.replicate n zeros)
  | 0, i, h, k, hk => by
    obtain ⟨k, rfl⟩ : ∃ k', k = k' + 1 := ⟨k - 1, by omega⟩
    have : i = n := by omega
    subst this
    rw [tarnref35_New.l0, if_neg (by omega)]
  | j + 1, i, h, k, hk => by
    obtain ⟨k, rfl⟩ : ∃ k', k = k' + 1 := ⟨k - 1, by omega⟩
    have hz : tarnref08_Zeros.f = some zeros := rfl
    have hi : wrap64 ((i : Int) + 1) = ((i + 1 : Nat) : Int) := by rw [wrap_id (by omega) (by omega)]; omega
    rw [tarnref35_New.l0, if_pos (by omega), hz, Option.bind_some, if_pos (by simp; omega), hi, ← List.replicate_succ']
    exact ref_new_l n hn j (i + 1) (by omega) k (by omega)
theorem ref_new_f (n : Nat) (hn : n ≤ 32) : tarnref35_New.f 100 (n : Int) = some (List.replicate n zeros) := by
  unfold tarnref35_New.f
  exact ref_new_l n hn n 0 (by omega) _ (by omega)
theorem run_len : ∀ (ps : List S106) (L : List ByteArray) (r : ByteArray), (run L r ps).1.length = L.length
  | [], L, r => rfl
  | p :: ps, L, r => by
    unfold run
    split
    · rw [run_len ps]; simp
    · exact run_len ps L _
theorem run_32 : ∀ (ps : List S106) (L : List ByteArray) (r : ByteArray), (∀ p ∈ ps, p.f2.size ≤ 32) → (∀ x ∈ L, x.size ≤ 32) → ∀ x ∈ (run L r ps).1, x.size ≤ 32
  | [], L, r, _, h => h
  | p :: ps, L, r, hp, h => by
    unfold run
    split
    · refine run_32 ps _ r (fun q hq => hp q (List.mem_cons_of_mem _ hq)) fun x hx => ?_
      rcases List.mem_or_eq_of_mem_set hx with hx | rfl
      · exact h x hx
      · exact hp p List.mem_cons_self
    · exact run_32 ps L _ (fun q hq => hp q (List.mem_cons_of_mem _ hq)) h
/-- What the law holds: the program's volume, and the reference's, in a box of its own. -/
structure LW (w wr : World) (g : Nat) (v : Value) (mb : Nat) (vm : Value) (Lf Lm : List ByteArray) : Prop where
  f : FI wr g v Lf w.heap.size
  m : wr.heap[mb]? = some (.cells #[vm] 63 (0, 0))
  r : wr.ownsRow w.heap.size 9 1 vm Lm.length (encs Value.string Lm)
  b : Below w.heap.size w wr
  d1 : ∀ k, vm.ownBlock = some k → v.ownBlock ≠ some k ∧ k ≠ g ∧ k ≠ mb
  d2 : v.ownBlock ≠ some mb
  d3 : mb ≠ g
  d4 : w.heap.size ≤ mb
theorem LW.below {w wr w' : World} {g : Nat} {v : Value} {mb : Nat} {vm : Value} {Lf Lm : List ByteArray} (h : LW w wr g v mb vm Lf Lm) (hb : Below wr.heap.size wr w') : LW w w' g v mb vm Lf Lm :=
  ⟨h.f.below hb, (hb.block _ (blk_lt h.m)).trans h.m, own_blk h.r fun k hk => hb.block k (own_lt h.r hk), below_step h.b hb, h.d1, h.d2, h.d3, h.d4⟩
theorem LW.vdo {w W W' : World} {g : Nat} {v : Value} {mb : Nat} {vm v' : Value} {L L1 : List ByteArray} (h : LW w W g v mb vm L L) (hb : Below W.heap.size W W') (hL : L1.length = L.length) (hv : (v' = vm ∧ L1 = L) ∨ W'.ownsRow W.heap.size 9 1 v' L.length (encs Value.string L1)) :
    LW w (sets W' mb 0 [v']) g v mb v' L L1 := by
  have h' := h.below hb
  have hs := blk_sets [v'] 0 #[vm] _ h'.m rfl
  have hne : ∀ k, k ≠ mb → (sets W' mb 0 [v']).heap[k]? = W'.heap[k]? := fun k hk => sets_ne hk _ _ _
  have hmb := blk_lt h.m
  have hg := blk_lt h.f.h
  have hown : W'.ownsRow w.heap.size 9 1 v' L1.length (encs Value.string L1) ∧ ∀ k, v'.ownBlock = some k → v.ownBlock ≠ some k ∧ k ≠ g ∧ k ≠ mb := by
    rcases hv with ⟨rfl, rfl⟩ | hv
    · exact ⟨h'.r, h.d1⟩
    · rw [← hL] at hv
      refine ⟨own_weaken hv h.b.size, fun k hk => ?_⟩
      have hk2 := own_base hv k hk
      refine ⟨fun e => ?_, by omega, by omega⟩
      have := own_lt h.f.r e
      omega
  refine ⟨⟨(hne g h.d3.symm).trans h'.f.h, own_blk h'.f.r fun k hk => hne k (fun e => h.d2 (by rw [hk, e])), h'.f.n, h'.f.b⟩, hs, own_blk hown.1 fun k hk => hne k (hown.2 k hk).2.2, below_sets h.d4 _ _ _ h'.b, hown.2, h.d2, h.d3, h.d4⟩
theorem LW.fdo {w W W' : World} {g : Nat} {v : Value} {mb : Nat} {vm : Value} {L L1 : List ByteArray} (h : LW w W g v mb vm L L1) (hF : FI W' g v L1 w.heap.size) (hg : W.grownBy W' v.ownBlock) : LW w W' g v mb vm L1 L1 :=
  ⟨hF, (hg.block _ (blk_lt h.m) (fun e => h.d2 e.symm)).trans h.m, own_blk h.r fun k hk => hg.block k (own_lt h.r hk) (fun e => (h.d1 k hk).1 e.symm), h.b.grown hg h.b.size (own_base h.f.r), h.d1, h.d2, h.d3, h.d4⟩
end Go.Proofs.Ythldophikcgkcab.Y
