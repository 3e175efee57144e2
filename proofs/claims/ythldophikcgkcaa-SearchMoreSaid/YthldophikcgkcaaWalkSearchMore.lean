/- tarnlaw40.SearchMore: the law's walk. -/
import Derived.Test.YthldophikcgkcaaSearchMoreA
namespace Go.Proofs.Ythldophikcgkcaa.Y
set_option linter.unusedVariables false
set_option linter.unusedSimpArgs false
open Go.RowKit Go.Proofs Go.IntWalk Go.Proofs.YthldophikcgkcaaW.PrintWords Go.Proofs.YthldophikcgkcaaW.PrintLast Go.Proofs.YthldophikcgkcaaW.PrintMore Go.Proofs.Ythldophikcgkcaa.X Go.Proofs.Ythldophikcgkcaa.PSr

set_option maxHeartbeats 8000000 in
set_option maxRecDepth 100000 in
theorem walk_more (A : Option Addr) (c : Nat) (l : List U) (s : ByteArray) (f0 : Bool) (f1 : ByteArray) (f2 f3 : Int) (w : World) (hC : Kd.C k40 w A l.length l) (hc : l.length ≤ c) :
    Calls Try.prog 5 #[.slice A l.length c, .string s, .agg #[.bool f0, .string f1, .int .i64 f2, .int .i64 f3]] w fun e w' => e = .returned (.bool true) ∧ Below w.heap.size w w' := by
  obtain ⟨r, hnr, hr7, hrn⟩ := near_f l false
  have hbx := heap_alloc_new w (.cells #[.bool f0, .string f1, .int .i64 f2, .int .i64 f3] 40)
  have hb0 := below_alloc (Below.refl w.heap.size w) (.cells #[.bool f0, .string f1, .int .i64 f2, .int .i64 f3] 40)
  have HN := Lib.hid (fun W (hb : Below w.heap.size w W) => tarnlaw40_near.calls 100 A c l false r W (Kd.C_below hC hb) hc hnr)
  have HR := Lib.hid (And.intro hr7 hrn)
  have HB0 := Lib.hid (And.intro hbx hb0)
  clear hC hnr hr7 hrn hbx hb0
  go_enter Try.func5, Try.ntmps5
  go_wp2_with fail
  refine (HN.out _ HB0.out.2).mono ?_
  rintro e1 W1 ⟨v0, rfl, hR, hB1⟩
  obtain ⟨A', c', rfl, hcc, hArg⟩ := arg_of_R hR
  have hP := (hB1.block _ (blk_lt HB0.out.1)).trans HB0.out.1
  have q0 : W1.drew.cell? ⟨w.heap.size, 0, none⟩ = some (.bool f0) := blk_cell hP 0
  have q1 : W1.drew.cell? ⟨w.heap.size, 1, none⟩ = some (.string f1) := blk_cell hP 1
  have q2 : W1.drew.cell? ⟨w.heap.size, 2, none⟩ = some (.int .i64 f2) := blk_cell hP 2
  have HX := Lib.hid (And.intro hArg (And.intro (below_step HB0.out.2 hB1) hP))
  clear hR hArg hB1 HN hP HB0
  go_wp2_with fail
  obtain ⟨v1, hv1⟩ : ∃ v1, s.extract 0 (min (s.size : Int) 1).toNat = v1 := ⟨_, rfl⟩
  have hvs : v1.size ≤ 1000 := by
    rw [← hv1, ByteArray.size_extract]
    omega
  rw [hv1]
  clear hv1
  have hz1 : (0 : Int) ≤ min (f1.size : Int) 2 := by omega
  have hz2 : min (f1.size : Int) 2 ≤ (f1.size : Int) := by omega
  refine start_ (n := 13) (S := (fun w' => w'.cell? ⟨w.heap.size, 0, none⟩ = some (.bool f0) ∧ w'.cell? ⟨w.heap.size, 1, none⟩ = some (.string f1) ∧ w'.cell? ⟨w.heap.size, 2, none⟩ = some (.int .i64 f2))) (ds := ([] : List Nat)) #[false, false, false, false, false, false, false, false, false, false, false, false, false] (by kernel_rfl) rfl rfl (⟨q0, q1, q2⟩) (fun hHeld => ?_)
  refine pure_ (i := 0) (N := some 17) (v := ?_) (a' := ?_) #[true, false, false, false, false, false, false, false, false, false, false, false, false] rfl rfl (by kernel_rfl) (fun _ _ _ h => h) (Or.inl ⟨by rfl, ?_⟩) ?_ ?_
  rotate_left
  · (intro w'; go_simp; with_reducible rfl)
  rotate_left
  · simp only [Act.put, List.setIfInBounds_toArray, List.set_cons_zero, List.set_cons_succ, i64_w, i32_w]
    rfl
  refine take_ (i := 1) (N := some 18) (v := ?_) (a' := ?_) #[true, true, false, false, false, false, false, false, false, false, false, false, false] rfl rfl (by kernel_rfl) (fun _ _ _ h => h) (Or.inl ⟨by rfl, ?_⟩) hHeld ?_ ?_
  rotate_left
  · rintro w' ⟨s0, s1, s2⟩
    go_simp
    with_reducible rfl
  rotate_left
  · simp only [Act.put, List.setIfInBounds_toArray, List.set_cons_zero, List.set_cons_succ, i64_w, i32_w]
    rfl
  refine pure_ (i := 2) (N := some 19) (v := ?_) (a' := ?_) #[true, true, true, false, false, false, false, false, false, false, false, false, false] rfl rfl (by kernel_rfl) (fun _ _ _ h => h) (Or.inl ⟨by rfl, ?_⟩) ?_ ?_
  rotate_left
  · (intro w'; go_simp; with_reducible rfl)
  rotate_left
  · simp only [Act.put, List.setIfInBounds_toArray, List.set_cons_zero, List.set_cons_succ, i64_w, i32_w]
    rfl
  refine take_ (i := 3) (N := some 20) (v := ?_) (a' := ?_) #[true, true, true, true, false, false, false, false, false, false, false, false, false] rfl rfl (by kernel_rfl) (fun _ _ _ h => h) (Or.inl ⟨by rfl, ?_⟩) hHeld ?_ ?_
  rotate_left
  · rintro w' ⟨s0, s1, s2⟩
    go_simp
    with_reducible rfl
  rotate_left
  · simp only [Act.put, List.setIfInBounds_toArray, List.set_cons_zero, List.set_cons_succ, i64_w, i32_w]
    rfl
  refine pure_ (i := 4) (N := some 21) (v := ?_) (a' := ?_) #[true, true, true, true, true, false, false, false, false, false, false, false, false] rfl rfl (by kernel_rfl) (fun _ _ _ h => h) (Or.inl ⟨by rfl, ?_⟩) ?_ ?_
  rotate_left
  · (intro w'; go_simp; with_reducible rfl)
  rotate_left
  · simp only [Act.put, List.setIfInBounds_toArray, List.set_cons_zero, List.set_cons_succ, i64_w, i32_w]
    rfl
  refine pure_ (i := 5) (N := some 22) (v := ?_) (a' := ?_) #[true, true, true, true, true, true, false, false, false, false, false, false, false] rfl rfl (by kernel_rfl) (fun _ _ _ h => h) (Or.inl ⟨by rfl, ?_⟩) ?_ ?_
  rotate_left
  · (intro w'; go_simp; with_reducible rfl)
  rotate_left
  · simp only [Act.put, List.setIfInBounds_toArray, List.set_cons_zero, List.set_cons_succ, i64_w, i32_w]
    rfl
  refine pure_ (i := 6) (N := some 23) (v := ?_) (a' := ?_) #[true, true, true, true, true, true, true, false, false, false, false, false, false] rfl rfl (by kernel_rfl) (fun _ _ _ h => h) (Or.inl ⟨by rfl, ?_⟩) ?_ ?_
  rotate_left
  · (intro w'; go_simp; with_reducible rfl)
  rotate_left
  · simp only [Act.put, List.setIfInBounds_toArray, List.set_cons_zero, List.set_cons_succ, i64_w, i32_w]
    rfl
  refine pure_ (i := 7) (N := some 24) (v := ?_) (a' := ?_) #[true, true, true, true, true, true, true, true, false, false, false, false, false] rfl rfl (by kernel_rfl) (fun _ _ _ h => h) (Or.inl ⟨by rfl, ?_⟩) ?_ ?_
  rotate_left
  · (intro w'; go_simp; with_reducible rfl)
  rotate_left
  · simp only [Act.put, List.setIfInBounds_toArray, List.set_cons_zero, List.set_cons_succ, i64_w, i32_w]
    rfl
  refine take_ (i := 8) (N := some 25) (v := ?_) (a' := ?_) #[true, true, true, true, true, true, true, true, true, false, false, false, false] rfl rfl (by kernel_rfl) (fun _ _ _ h => h) (Or.inl ⟨by rfl, ?_⟩) hHeld ?_ ?_
  rotate_left
  · rintro w' ⟨s0, s1, s2⟩
    go_simp
    with_reducible rfl
  rotate_left
  · simp only [Act.put, List.setIfInBounds_toArray, List.set_cons_zero, List.set_cons_succ, i64_w, i32_w]
    rfl
  refine pure_ (i := 9) (N := some 26) (v := ?_) (a' := ?_) #[true, true, true, true, true, true, true, true, true, true, false, false, false] rfl rfl (by kernel_rfl) (fun _ _ _ h => h) (Or.inl ⟨by rfl, ?_⟩) ?_ ?_
  rotate_left
  · (intro w'; go_simp; with_reducible rfl)
  rotate_left
  · simp only [Act.put, List.setIfInBounds_toArray, List.set_cons_zero, List.set_cons_succ, i64_w, i32_w]
    rfl
  refine pure_ (i := 10) (N := some 27) (v := ?_) (a' := ?_) #[true, true, true, true, true, true, true, true, true, true, true, false, false] rfl rfl (by kernel_rfl) (fun _ _ _ h => h) (Or.inl ⟨by rfl, ?_⟩) ?_ ?_
  rotate_left
  · (intro w'; go_simp; with_reducible rfl)
  rotate_left
  · simp only [Act.put, List.setIfInBounds_toArray, List.set_cons_zero, List.set_cons_succ, i64_w, i32_w]
    rfl
  refine one_ (i := 11) (N := some 9) #[true, true, true, true, true, true, true, true, true, true, true, true, false] rfl rfl (by kernel_rfl) (by decide) (fun K hK => ?_)
  refine box_step ?hg (N := 9) ?hd (cs := #[.bool false, .string ⟨#[]⟩, .int .i64 0, .int .i64 0]) (t := 40) ?hr ?_; (case hd => rfl); (case hg => rfl); (case hr => first | (go_simp; done) | (go_simp; rfl))
  intro gy hgy w7 hbox hb7
  have HG7 := Lib.hid hgy
  clear hgy
  have hP7 : w7.heap[w.heap.size]? = _ := (hb7.block _ (by have := blk_lt HX.out.2.2; exact this)).trans HX.out.2.2
  refine hK.out _ _ ⟨blk_cell hP7 0, blk_cell hP7 1, blk_cell hP7 2⟩ (fun hHeld => ?_)
  refine norm_ (a' := ?_) ?_ ?_
  rotate_left
  · show Act.put _ (some 9) _ = _
    simp only [Act.put, List.setIfInBounds_toArray, List.set_cons_zero, List.set_cons_succ, i64_w, i32_w]
    rfl
  clear hK K
  have hne0 : w.heap.size ≠ gy := by have h1 := blk_lt HX.out.2.2; have h2 : gy = W1.heap.size := HG7.out; omega
  refine one_ (i := 12) (N := none) #[true, true, true, true, true, true, true, true, true, true, true, true, true] rfl rfl (by kernel_rfl) (by decide) (fun K hK => ?_)
  have hs0 : w7.cell? ⟨gy, 0, none⟩ = some (.bool false) := (blk_cell hbox 0).trans rfl
  have hf0 := blk_frozen hbox 0
  have hs1 : w7.cell? ⟨gy, 1, none⟩ = some (.string ⟨#[]⟩) := (blk_cell hbox 1).trans rfl
  have hf1 := blk_frozen hbox 1
  have hs2 : w7.cell? ⟨gy, 2, none⟩ = some (.int .i64 0) := (blk_cell hbox 2).trans rfl
  have hf2 := blk_frozen hbox 2
  have hs3 : w7.cell? ⟨gy, 3, none⟩ = some (.int .i64 0) := (blk_cell hbox 3).trans rfl
  have hf3 := blk_frozen hbox 3
  refine skip_ (w1 := ?_) (by rfl) rfl ?_ ?_
  rotate_left
  · go_simp
    rfl
  obtain ⟨y, hy⟩ : ∃ y : U, (⟨true, f1.extract 0 (min (f1.size : Int) 2).toNat, Go.bits .and .i64 f2 15, 1073741824⟩ : U) = y := ⟨_, rfl⟩
  have hy0 : y.f0 = true := by rw [← hy]
  have hy1 : f1.extract 0 (min (f1.size : Int) 2).toNat = y.f1 := by rw [← hy]
  have hy2 : Go.bits .and .i64 f2 15 = y.f2 := by rw [← hy]
  have hy3 : y.f3 = 1073741824 := by rw [← hy]
  have hys : y.f1.size ≤ 1000 := by
    rw [← hy1, ByteArray.size_extract]
    omega
  clear hy
  rw [hy1, hy2]
  have hgl : W1.drew.heap.size ≤ gy := Nat.le_of_eq HG7.out.symm
  have hB8 := below_set (g := gy) (j := 3) (v := .int .i64 1073741824) (below_set (g := gy) (j := 2) (v := .int .i64 y.f2) (below_set (g := gy) (j := 1) (v := .string y.f1) (below_set (g := gy) (j := 0) (v := .bool true) hb7 hgl) hgl) hgl) hgl
  have hY8 : ((((w7.setCell ⟨gy, 0, none⟩ (.bool true)).setCell ⟨gy, 1, none⟩ (.string y.f1)).setCell ⟨gy, 2, none⟩ (.int .i64 y.f2)).setCell ⟨gy, 3, none⟩ (.int .i64 1073741824)).heap[gy]? = some (.cells #[.bool true, .string y.f1, .int .i64 y.f2, .int .i64 1073741824] 40 (0, 0)) := blk_put (blk_put (blk_put (blk_put hbox 0 _ rfl) 1 _ rfl) 2 _ rfl) 3 _ rfl
  have hP8 := (hB8.block _ (by have := blk_lt HX.out.2.2; exact this)).trans HX.out.2.2
  refine hK.out _ _ ⟨blk_cell hP8 0, blk_cell hP8 1, blk_cell hP8 2⟩ (fun hHeld => ?_)
  clear hK K hs0 hf0 hs1 hf1 hs2 hf2 hs3 hf3 hP7 hP8
  refine done_ (by kernel_rfl) ?_
  generalize (((w7.setCell ⟨gy, 0, none⟩ (.bool true)).setCell ⟨gy, 1, none⟩ (.string y.f1)).setCell ⟨gy, 2, none⟩ (.int .i64 y.f2)).setCell ⟨gy, 3, none⟩ (.int .i64 1073741824) = W8 at *
  have hA8 := HX.out.1.below (below_step (below_drew1 (Below.refl W1.heap.size W1)) hB8)
  have L0 : LMS w W8 W8 gy A' c' r y := ⟨hA8.a, hA8.r, by rw [hy0, hy3]; exact hY8, below_step HX.out.2.1 (below_step (below_drew1 (Below.refl W1.heap.size W1)) hB8), Below.refl _ _⟩
  have HY3 := Lib.hid hy3
  clear hy0 hy3
  have HL := Lib.hid L0
  clear L0 hA8 hY8 hB8 hbox hb7 hHeld hgl q0 q1 q2 HX hz1 hz2 hy1 hy2
  have hval : Vals r := vals_small fun x hx => Nat.le_trans (HR.out.2 x hx).1 (by decide)
  have hval2 : Vals (r ++ [y]) := fun k hk => by
    by_cases h : k < r.length
    · rw [gU_app r y k h]; exact hval k h
    · obtain rfl : k = r.length := by simp at hk; omega
      rw [gU_last]; exact hys
  go_wp2_with fail
  refine start_ (n := 18) (S := fun w' => LMS w W8 w' gy A' c' r y) (ds := ([] : List Nat)) #[false, false, false, false, false, false, false, false, false, false, false, false, false, false, false, false, false, false] (by kernel_rfl) rfl rfl (HL.out.below (below_drew1 (Below.refl _ _))) (fun hHeld => ?_)
  refine one_ (i := 0) (N := some 28) #[true, false, false, false, false, false, false, false, false, false, false, false, false, false, false, false, false, false] rfl rfl (by kernel_rfl) (by decide) (fun K hK => ?_)
  refine call_ 16 #[] (by rfl) rfl (by go_simp; (try with_reducible rfl)) ?_
  refine (awake_n _).mono ?_
  rintro e4 W4 ⟨rfl, hB4⟩
  refine ⟨_, rfl, hK.out _ _ (hHeld.below hB4) (fun hHeld4 => ?_)⟩
  clear hK K hB4 hHeld
  refine norm_ (a' := ?_) ?_ ?_
  rotate_left
  · show Act.put _ (some 28) _ = _
    simp only [Act.put, List.setIfInBounds_toArray, List.set_cons_zero, List.set_cons_succ, i64_w, i32_w]
    rfl
  refine pure_ (i := 1) (N := some 29) (v := ?_) (a' := ?_) #[true, true, false, false, false, false, false, false, false, false, false, false, false, false, false, false, false, false] rfl rfl (by kernel_rfl) (fun _ _ _ h => h) (Or.inl ⟨by rfl, ?_⟩) ?_ ?_
  rotate_left
  · (intro w'; go_simp; with_reducible rfl)
  rotate_left
  · simp only [Act.put, List.setIfInBounds_toArray, List.set_cons_zero, List.set_cons_succ, i64_w, i32_w]
    rfl
  refine pure_ (i := 2) (N := some 30) (v := ?_) (a' := ?_) #[true, true, true, false, false, false, false, false, false, false, false, false, false, false, false, false, false, false] rfl rfl (by kernel_rfl) (fun _ _ _ h => h) (Or.inl ⟨by rfl, ?_⟩) ?_ ?_
  rotate_left
  · (intro w'; go_simp; with_reducible rfl)
  rotate_left
  · simp only [Act.put, List.setIfInBounds_toArray, List.set_cons_zero, List.set_cons_succ, i64_w, i32_w]
    rfl
  refine pure_ (i := 3) (N := some 31) (v := ?_) (a' := ?_) #[true, true, true, true, false, false, false, false, false, false, false, false, false, false, false, false, false, false] rfl rfl (by kernel_rfl) (fun _ _ _ h => h) (Or.inl ⟨by rfl, ?_⟩) ?_ ?_
  rotate_left
  · (intro w'; go_simp; with_reducible rfl)
  rotate_left
  · simp only [Act.put, List.setIfInBounds_toArray, List.set_cons_zero, List.set_cons_succ, i64_w, i32_w]
    rfl
  refine one_ (i := 4) (N := some 32) #[true, true, true, true, true, false, false, false, false, false, false, false, false, false, false, false, false, false] rfl rfl (by kernel_rfl) (by decide) (fun K hK => ?_)
  refine call_ 17 #[.slice A' r.length c', .string v1] (by rfl) rfl (by go_simp; (try with_reducible rfl)) ?_
  refine (order_n W4 A' c' r v1 hHeld4.arg (Nat.le_trans HR.out.1 (by decide)) hval hvs).mono ?_
  rintro e5 W5 ⟨⟨b1, rfl, hb1⟩, hB5⟩
  refine ⟨_, rfl, hK.out _ _ (hHeld4.below hB5) (fun hHeld5 => ?_)⟩
  clear hK K hB5 hHeld4
  refine norm_ (a' := ?_) ?_ ?_
  rotate_left
  · show Act.put _ (some 32) _ = _
    simp only [Act.put, List.setIfInBounds_toArray, List.set_cons_zero, List.set_cons_succ, i64_w, i32_w]
    rfl
  cases b1 with
  | false =>
    refine pure_ (i := 5) (N := some 33) (v := ?_) (a' := ?_) #[true, true, true, true, true, true, false, false, false, false, false, false, false, false, false, false, false, false] rfl rfl (by kernel_rfl) (fun _ _ _ h => h) (Or.inl ⟨by rfl, ?_⟩) ?_ ?_
    rotate_left
    · (intro w'; go_simp; with_reducible rfl)
    rotate_left
    · simp only [Act.put, List.setIfInBounds_toArray, List.set_cons_zero, List.set_cons_succ, i64_w, i32_w]
      rfl
    refine pure_ (i := 6) (N := some 34) (v := ?_) (a' := ?_) #[true, true, true, true, true, true, true, false, false, false, false, false, false, false, false, false, false, false] rfl rfl (by kernel_rfl) (fun _ _ _ h => h) (Or.inl ⟨by rfl, ?_⟩) ?_ ?_
    rotate_left
    · (intro w'; go_simp; with_reducible rfl)
    rotate_left
    · simp only [Act.put, List.setIfInBounds_toArray, List.set_cons_zero, List.set_cons_succ, i64_w, i32_w]
      rfl
    refine pure_ (i := 7) (N := some 35) (v := undef) (a' := ?_) #[true, true, true, true, true, true, true, true, false, false, false, false, false, false, false, false, false, false] rfl rfl (by kernel_rfl) (fun _ _ _ h => h) (Or.inr ⟨by rfl, rfl⟩) ?_ ?_
    rotate_left
    · simp only [Act.put, List.setIfInBounds_toArray, List.set_cons_zero, List.set_cons_succ, i64_w, i32_w]
      rfl
    refine pure_ (i := 8) (N := some 36) (v := undef) (a' := ?_) #[true, true, true, true, true, true, true, true, true, false, false, false, false, false, false, false, false, false] rfl rfl (by kernel_rfl) (fun _ _ _ h => h) (Or.inr ⟨by rfl, rfl⟩) ?_ ?_
    rotate_left
    · simp only [Act.put, List.setIfInBounds_toArray, List.set_cons_zero, List.set_cons_succ, i64_w, i32_w]
      rfl
    refine pure_ (i := 10) (N := some 38) (v := undef) (a' := ?_) #[true, true, true, true, true, true, true, true, true, false, true, false, false, false, false, false, false, false] rfl rfl (by kernel_rfl) (fun _ _ _ h => h) (Or.inr ⟨by rfl, rfl⟩) ?_ ?_
    rotate_left
    · simp only [Act.put, List.setIfInBounds_toArray, List.set_cons_zero, List.set_cons_succ, i64_w, i32_w]
      rfl
    refine pure_ (i := 13) (N := some 41) (v := undef) (a' := ?_) #[true, true, true, true, true, true, true, true, true, false, true, false, false, true, false, false, false, false] rfl rfl (by kernel_rfl) (fun _ _ _ h => h) (Or.inr ⟨by rfl, rfl⟩) ?_ ?_
    rotate_left
    · simp only [Act.put, List.setIfInBounds_toArray, List.set_cons_zero, List.set_cons_succ, i64_w, i32_w]
      rfl
    refine two_ (i := 9) (j := 11) (Ni := some 37) (Nj := some 39) #[true, true, true, true, true, true, true, true, true, true, true, false, false, true, false, false, false, false] #[true, true, true, true, true, true, true, true, true, false, true, true, false, true, false, false, false, false] rfl rfl rfl rfl (by kernel_rfl) (by decide) (by decide) (fun K hK => ?_) (fun K hK => ?_)
    · skip
      refine off_ (by rfl) (hK.out _ _ hHeld5 (fun hHeld => ?_))
      clear hK K
      refine norm_ (a' := ?_) ?_ ?_
      rotate_left
      · show Act.put _ (some 37) _ = _
        simp only [Act.put, List.setIfInBounds_toArray, List.set_cons_zero, List.set_cons_succ, i64_w, i32_w]
        rfl
      refine one_ (i := 11) (N := some 39) #[true, true, true, true, true, true, true, true, true, true, true, true, false, true, false, false, false, false] rfl rfl (by kernel_rfl) (by decide) (fun K hK => ?_)
      refine off_ (by rfl) (hK.out _ _ hHeld (fun hHeld => ?_))
      clear hK K
      refine norm_ (a' := ?_) ?_ ?_
      rotate_left
      · show Act.put _ (some 39) _ = _
        simp only [Act.put, List.setIfInBounds_toArray, List.set_cons_zero, List.set_cons_succ, i64_w, i32_w]
        rfl
      refine one_ (i := 12) (N := some 40) #[true, true, true, true, true, true, true, true, true, true, true, true, true, true, false, false, false, false] rfl rfl (by kernel_rfl) (by decide) (fun K hK => ?_)
      refine off_ (by rfl) (hK.out _ _ hHeld (fun hHeld => ?_))
      clear hK K
      refine norm_ (a' := ?_) ?_ ?_
      rotate_left
      · show Act.put _ (some 40) _ = _
        simp only [Act.put, List.setIfInBounds_toArray, List.set_cons_zero, List.set_cons_succ, i64_w, i32_w]
        rfl
      refine one_ (i := 14) (N := some 42) #[true, true, true, true, true, true, true, true, true, true, true, true, true, true, true, false, false, false] rfl rfl (by kernel_rfl) (by decide) (fun K hK => ?_)
      refine off_ (by rfl) (hK.out _ _ hHeld (fun hHeld => ?_))
      clear hK K
      refine norm_ (a' := ?_) ?_ ?_
      rotate_left
      · show Act.put _ (some 42) _ = _
        simp only [Act.put, List.setIfInBounds_toArray, List.set_cons_zero, List.set_cons_succ, i64_w, i32_w]
        rfl
      refine pure_ (i := 15) (N := some 43) (v := ?_) (a' := ?_) #[true, true, true, true, true, true, true, true, true, true, true, true, true, true, true, true, false, false] rfl rfl (by kernel_rfl) (fun _ _ _ h => h) (Or.inl ⟨by rfl, ?_⟩) ?_ ?_
      rotate_left
      · (intro w'; go_simp; with_reducible rfl)
      rotate_left
      · simp only [Act.put, List.setIfInBounds_toArray, List.set_cons_zero, List.set_cons_succ, i64_w, i32_w]
        rfl
      refine pure_ (i := 16) (N := some 44) (v := ?_) (a' := ?_) #[true, true, true, true, true, true, true, true, true, true, true, true, true, true, true, true, true, false] rfl rfl (by kernel_rfl) (fun _ _ _ h => h) (Or.inl ⟨by rfl, ?_⟩) ?_ ?_
      rotate_left
      · (intro w'; go_simp; with_reducible rfl)
      rotate_left
      · simp only [Act.put, List.setIfInBounds_toArray, List.set_cons_zero, List.set_cons_succ, i64_w, i32_w]
        rfl
      refine pure_ (i := 17) (N := some 6) (v := ?_) (a' := ?_) #[true, true, true, true, true, true, true, true, true, true, true, true, true, true, true, true, true, true] rfl rfl (by kernel_rfl) (fun _ _ _ h => h) (Or.inl ⟨by rfl, ?_⟩) ?_ ?_
      rotate_left
      · (intro w'; go_simp; with_reducible rfl)
      rotate_left
      · simp only [Act.put, List.setIfInBounds_toArray, List.set_cons_zero, List.set_cons_succ, i64_w, i32_w]
        rfl
      refine done_ (by kernel_rfl) ?_
      have HF := Lib.hid hHeld
      clear hHeld
      go_wp2
      go_ret
      exact ⟨rfl, HF.out.all⟩
    · skip
      refine off_ (by rfl) (hK.out _ _ hHeld5 (fun hHeld => ?_))
      clear hK K
      refine norm_ (a' := ?_) ?_ ?_
      rotate_left
      · show Act.put _ (some 39) _ = _
        simp only [Act.put, List.setIfInBounds_toArray, List.set_cons_zero, List.set_cons_succ, i64_w, i32_w]
        rfl
      refine one_ (i := 9) (N := some 37) #[true, true, true, true, true, true, true, true, true, true, true, true, false, true, false, false, false, false] rfl rfl (by kernel_rfl) (by decide) (fun K hK => ?_)
      refine off_ (by rfl) (hK.out _ _ hHeld (fun hHeld => ?_))
      clear hK K
      refine norm_ (a' := ?_) ?_ ?_
      rotate_left
      · show Act.put _ (some 37) _ = _
        simp only [Act.put, List.setIfInBounds_toArray, List.set_cons_zero, List.set_cons_succ, i64_w, i32_w]
        rfl
      refine one_ (i := 12) (N := some 40) #[true, true, true, true, true, true, true, true, true, true, true, true, true, true, false, false, false, false] rfl rfl (by kernel_rfl) (by decide) (fun K hK => ?_)
      refine off_ (by rfl) (hK.out _ _ hHeld (fun hHeld => ?_))
      clear hK K
      refine norm_ (a' := ?_) ?_ ?_
      rotate_left
      · show Act.put _ (some 40) _ = _
        simp only [Act.put, List.setIfInBounds_toArray, List.set_cons_zero, List.set_cons_succ, i64_w, i32_w]
        rfl
      refine one_ (i := 14) (N := some 42) #[true, true, true, true, true, true, true, true, true, true, true, true, true, true, true, false, false, false] rfl rfl (by kernel_rfl) (by decide) (fun K hK => ?_)
      refine off_ (by rfl) (hK.out _ _ hHeld (fun hHeld => ?_))
      clear hK K
      refine norm_ (a' := ?_) ?_ ?_
      rotate_left
      · show Act.put _ (some 42) _ = _
        simp only [Act.put, List.setIfInBounds_toArray, List.set_cons_zero, List.set_cons_succ, i64_w, i32_w]
        rfl
      refine pure_ (i := 15) (N := some 43) (v := ?_) (a' := ?_) #[true, true, true, true, true, true, true, true, true, true, true, true, true, true, true, true, false, false] rfl rfl (by kernel_rfl) (fun _ _ _ h => h) (Or.inl ⟨by rfl, ?_⟩) ?_ ?_
      rotate_left
      · (intro w'; go_simp; with_reducible rfl)
      rotate_left
      · simp only [Act.put, List.setIfInBounds_toArray, List.set_cons_zero, List.set_cons_succ, i64_w, i32_w]
        rfl
      refine pure_ (i := 16) (N := some 44) (v := ?_) (a' := ?_) #[true, true, true, true, true, true, true, true, true, true, true, true, true, true, true, true, true, false] rfl rfl (by kernel_rfl) (fun _ _ _ h => h) (Or.inl ⟨by rfl, ?_⟩) ?_ ?_
      rotate_left
      · (intro w'; go_simp; with_reducible rfl)
      rotate_left
      · simp only [Act.put, List.setIfInBounds_toArray, List.set_cons_zero, List.set_cons_succ, i64_w, i32_w]
        rfl
      refine pure_ (i := 17) (N := some 6) (v := ?_) (a' := ?_) #[true, true, true, true, true, true, true, true, true, true, true, true, true, true, true, true, true, true] rfl rfl (by kernel_rfl) (fun _ _ _ h => h) (Or.inl ⟨by rfl, ?_⟩) ?_ ?_
      rotate_left
      · (intro w'; go_simp; with_reducible rfl)
      rotate_left
      · simp only [Act.put, List.setIfInBounds_toArray, List.set_cons_zero, List.set_cons_succ, i64_w, i32_w]
        rfl
      refine done_ (by kernel_rfl) ?_
      have HF := Lib.hid hHeld
      clear hHeld
      go_wp2
      go_ret
      exact ⟨rfl, HF.out.all⟩
  | true =>
    have hO := hb1.1 rfl
    have HO := Lib.hid (ord_more r y HY3.out (fun k hk => Int.le_trans (HR.out.2 _ (gU_mem hk)).2.2 (by decide)) hO)
    clear hO hb1
    refine pure_ (i := 5) (N := some 33) (v := ?_) (a' := ?_) #[true, true, true, true, true, true, false, false, false, false, false, false, false, false, false, false, false, false] rfl rfl (by kernel_rfl) (fun _ _ _ h => h) (Or.inl ⟨by rfl, ?_⟩) ?_ ?_
    rotate_left
    · (intro w'; go_simp; with_reducible rfl)
    rotate_left
    · simp only [Act.put, List.setIfInBounds_toArray, List.set_cons_zero, List.set_cons_succ, i64_w, i32_w]
      rfl
    refine pure_ (i := 6) (N := some 34) (v := ?_) (a' := ?_) #[true, true, true, true, true, true, true, false, false, false, false, false, false, false, false, false, false, false] rfl rfl (by kernel_rfl) (fun _ _ _ h => h) (Or.inl ⟨by rfl, ?_⟩) ?_ ?_
    rotate_left
    · (intro w'; go_simp; with_reducible rfl)
    rotate_left
    · simp only [Act.put, List.setIfInBounds_toArray, List.set_cons_zero, List.set_cons_succ, i64_w, i32_w]
      rfl
    refine pure_ (i := 8) (N := some 36) (v := ?_) (a' := ?_) #[true, true, true, true, true, true, true, false, true, false, false, false, false, false, false, false, false, false] rfl rfl (by kernel_rfl) (fun _ _ _ h => h) (Or.inl ⟨by rfl, ?_⟩) ?_ ?_
    rotate_left
    · (intro w'; go_simp; with_reducible rfl)
    rotate_left
    · simp only [Act.put, List.setIfInBounds_toArray, List.set_cons_zero, List.set_cons_succ, i64_w, i32_w]
      rfl
    have HW5 := hHeld5
    refine take_ (i := 10) (N := some 38) (v := ?_) (a' := ?_) #[true, true, true, true, true, true, true, false, true, false, true, false, false, false, false, false, false, false] rfl rfl (by kernel_rfl) (fun _ _ _ h => h) (Or.inl ⟨by rfl, ?_⟩) hHeld5 ?_ ?_
    rotate_left
    · intro w' hS
      have k0 : w'.cell? ⟨gy, 0, none⟩ = some (.bool y.f0) := blk_cell (LMS.yb hS) 0
      have k1 : w'.cell? ⟨gy, 1, none⟩ = some (.string y.f1) := blk_cell (LMS.yb hS) 1
      have k2 : w'.cell? ⟨gy, 2, none⟩ = some (.int .i64 y.f2) := blk_cell (LMS.yb hS) 2
      have k3 : w'.cell? ⟨gy, 3, none⟩ = some (.int .i64 y.f3) := blk_cell (LMS.yb hS) 3
      go_simp
      with_reducible rfl
    rotate_left
    · simp only [Act.put, List.setIfInBounds_toArray, List.set_cons_zero, List.set_cons_succ, i64_w, i32_w]
      rfl
    refine pure_ (i := 13) (N := some 41) (v := ?_) (a' := ?_) #[true, true, true, true, true, true, true, false, true, false, true, false, false, true, false, false, false, false] rfl rfl (by kernel_rfl) (fun _ _ _ h => h) (Or.inl ⟨by rfl, ?_⟩) ?_ ?_
    rotate_left
    · (intro w'; go_simp; with_reducible rfl)
    rotate_left
    · simp only [Act.put, List.setIfInBounds_toArray, List.set_cons_zero, List.set_cons_succ, i64_w, i32_w]
      rfl
    refine two_ (i := 7) (j := 11) (Ni := some 35) (Nj := some 39) #[true, true, true, true, true, true, true, true, true, false, true, false, false, true, false, false, false, false] #[true, true, true, true, true, true, true, false, true, false, true, true, false, true, false, false, false, false] rfl rfl rfl rfl (by kernel_rfl) (by decide) (by decide) (fun K hK => ?_) (fun K hK => ?_)
    · skip
      refine event_step (v := .slice (some ⟨W5.heap.size, 0, none⟩) 0 0) (w1 := W5.alloc (.cells #[] 40)) (by rfl) (by go_simp; (try with_reducible rfl)) ?_
      refine hK.out _ _ (LMS.below hHeld5 (below_alloc (Below.refl _ _) _)) (fun hHeW6 => ?_)
      clear hK K
      refine norm_ (a' := ?_) ?_ ?_
      rotate_left
      · show Act.put _ (some 35) _ = _
        simp only [Act.put, List.setIfInBounds_toArray, List.set_cons_zero, List.set_cons_succ, i64_w, i32_w]
        rfl
      have hOW6 := own_empty W5 W8.heap.size hHeld5.b.size
      obtain ⟨g7, hg7⟩ : ∃ g, W5.heap.size = g := ⟨_, rfl⟩
      have hb7a := below_alloc (Below.refl W5.heap.size W5) (.cells #[] 40)
      have hs7 : (W5.alloc (.cells #[] 40)).heap.size = g7 + 1 := by simp [hg7]
      have hg8 : W8.heap.size ≤ g7 := by rw [← hg7]; exact hHeld5.b.size
      rw [hg7] at hOW6 ⊢
      generalize W5.alloc (.cells #[] 40) = W6 at *
      have HG7 := Lib.hid hg7
      clear hg7
      refine two_ (i := 9) (j := 11) (Ni := some 37) (Nj := some 39) #[true, true, true, true, true, true, true, true, true, true, true, false, false, true, false, false, false, false] #[true, true, true, true, true, true, true, true, true, false, true, true, false, true, false, false, false, false] rfl rfl rfl rfl (by kernel_rfl) (by decide) (by decide) (fun K hK => ?_) (fun K hK => ?_)
      · skip
        obtain ⟨v9, W9, hap, hown9, hg9, _⟩ := app_x W6 W8.heap.size (.slice (some ⟨g7, 0, none⟩) 0 0) 0 [] hOW6 A' c' r (LMS.arg hHeW6) (by have := HR.out.1; omega) (LMS.b hHeW6).size
        refine event_step (v := v9) (w1 := W9) (by rfl) (append_event rfl rfl rfl hap) ?_
        refine hK.out _ _ (LMS.grown hHeW6 hg9 (fun k hk => by have h2 : some g7 = some k := hk; injection h2 with h2; rw [← h2]; exact hg8)) (fun hHeW9 => ?_)
        clear hK K
        refine norm_ (a' := ?_) ?_ ?_
        rotate_left
        · show Act.put _ (some 37) _ = _
          simp only [Act.put, List.setIfInBounds_toArray, List.set_cons_zero, List.set_cons_succ, i64_w, i32_w]
          rfl
        refine one_ (i := 11) (N := some 39) #[true, true, true, true, true, true, true, true, true, true, true, true, false, true, false, false, false, false] rfl rfl (by kernel_rfl) (by decide) (fun K hK => ?_)
        refine event_step (v := .slice (some ⟨W9.heap.size, 0, none⟩) 1 1) (w1 := W9.alloc (.cells #[.bool y.f0, .string y.f1, .int .i64 y.f2, .int .i64 y.f3] 40)) (by rfl) (by go_simp; (try with_reducible rfl)) ?_
        refine hK.out _ _ (LMS.below hHeW9 (below_alloc (Below.refl _ _) _)) (fun hHeW10 => ?_)
        clear hK K
        refine norm_ (a' := ?_) ?_ ?_
        rotate_left
        · show Act.put _ (some 39) _ = _
          simp only [Act.put, List.setIfInBounds_toArray, List.set_cons_zero, List.set_cons_succ, i64_w, i32_w]
          rfl
        have hYW10 := heap_alloc_new W9 (.cells #[.bool y.f0, .string y.f1, .int .i64 y.f2, .int .i64 y.f3] 40)
        have hs11 : (W9.alloc (.cells #[.bool y.f0, .string y.f1, .int .i64 y.f2, .int .i64 y.f3] 40)).heap.size = W9.heap.size + 1 := by simp
        have hb11 := below_alloc (Below.refl W9.heap.size W9) (.cells #[.bool y.f0, .string y.f1, .int .i64 y.f2, .int .i64 y.f3] 40)
        have hownA := hown9.alloc (.cells #[.bool y.f0, .string y.f1, .int .i64 y.f2, .int .i64 y.f3] 40)
        obtain ⟨g11, hg11⟩ : ∃ g, W9.heap.size = g := ⟨_, rfl⟩
        rw [hg11] at hYW10 hs11 ⊢
        generalize W9.alloc (.cells #[.bool y.f0, .string y.f1, .int .i64 y.f2, .int .i64 y.f3] 40) = W10 at *
        have HG11 := Lib.hid hg11
        clear hg11
        have hAy : ArgU W10 (some ⟨g11, 0, none⟩) 1 [y] := ⟨Or.inr ⟨g11, rfl, blk_lt hYW10⟩, row_of_flat (blk_lt hYW10) fun j u hj => by rw [blk_cell hYW10 j]; show (flatU [y]).toArray[j]? = some u; rw [List.getElem?_toArray]; exact hj⟩
        refine one_ (i := 12) (N := some 40) #[true, true, true, true, true, true, true, true, true, true, true, true, true, true, false, false, false, false] rfl rfl (by kernel_rfl) (by decide) (fun K hK => ?_)
        obtain ⟨v12, W12, hap2, hown12, hg12, _⟩ := app_x W10 W8.heap.size v9 (0 + r.length) ([] ++ flatU r) hownA (some ⟨g11, 0, none⟩) 1 [y] hAy (by have := HR.out.1; simp; omega) (LMS.b hHeW10).size
        refine event_step (v := v12) (w1 := W12) (by rfl) (append_event rfl rfl rfl hap2) ?_
        refine hK.out _ _ (LMS.grown hHeW10 hg12 (fun k hk => own_base hownA k hk)) (fun hHe12 => ?_)
        clear hK K
        refine norm_ (a' := ?_) ?_ ?_
        rotate_left
        · show Act.put _ (some 40) _ = _
          simp only [Act.put, List.setIfInBounds_toArray, List.set_cons_zero, List.set_cons_succ, i64_w, i32_w]
          rfl
        have hown13 : W12.ownsRow W8.heap.size 40 4 v12 (r ++ [y]).length (flatU (r ++ [y])) := by simpa [flatU] using hown12
        obtain ⟨A2, c2, rfl, hA2⟩ := arg_of_own hown13
        refine one_ (i := 14) (N := some 42) #[true, true, true, true, true, true, true, true, true, true, true, true, true, true, true, false, false, false] rfl rfl (by kernel_rfl) (by decide) (fun K hK => ?_)
        refine call_ 17 #[.slice A2 (r ++ [y]).length c2, .string v1] (by rfl) rfl (by go_simp; (try with_reducible rfl)) ?_
        refine (order_n W12 A2 c2 (r ++ [y]) v1 hA2 (by have := HR.out.1; simp; omega) hval2 hvs).mono ?_
        rintro e6 W13 ⟨⟨b2, rfl, hb2⟩, hB13⟩
        obtain rfl : b2 = true := hb2.2 HO.out
        refine ⟨_, rfl, hK.out _ _ (LMS.below hHe12 hB13) (fun hHe13 => ?_)⟩
        clear hK K
        refine norm_ (a' := ?_) ?_ ?_
        rotate_left
        · show Act.put _ (some 42) _ = _
          simp only [Act.put, List.setIfInBounds_toArray, List.set_cons_zero, List.set_cons_succ, i64_w, i32_w]
          rfl
        refine pure_ (i := 15) (N := some 43) (v := ?_) (a' := ?_) #[true, true, true, true, true, true, true, true, true, true, true, true, true, true, true, true, false, false] rfl rfl (by kernel_rfl) (fun _ _ _ h => h) (Or.inl ⟨by rfl, ?_⟩) ?_ ?_
        rotate_left
        · (intro w'; go_simp; with_reducible rfl)
        rotate_left
        · simp only [Act.put, List.setIfInBounds_toArray, List.set_cons_zero, List.set_cons_succ, i64_w, i32_w]
          rfl
        refine pure_ (i := 16) (N := some 44) (v := ?_) (a' := ?_) #[true, true, true, true, true, true, true, true, true, true, true, true, true, true, true, true, true, false] rfl rfl (by kernel_rfl) (fun _ _ _ h => h) (Or.inl ⟨by rfl, ?_⟩) ?_ ?_
        rotate_left
        · (intro w'; go_simp; with_reducible rfl)
        rotate_left
        · simp only [Act.put, List.setIfInBounds_toArray, List.set_cons_zero, List.set_cons_succ, i64_w, i32_w]
          rfl
        refine pure_ (i := 17) (N := some 6) (v := ?_) (a' := ?_) #[true, true, true, true, true, true, true, true, true, true, true, true, true, true, true, true, true, true] rfl rfl (by kernel_rfl) (fun _ _ _ h => h) (Or.inl ⟨by rfl, ?_⟩) ?_ ?_
        rotate_left
        · (intro w'; go_simp; with_reducible rfl)
        rotate_left
        · simp only [Act.put, List.setIfInBounds_toArray, List.set_cons_zero, List.set_cons_succ, i64_w, i32_w]
          rfl
        refine done_ (by kernel_rfl) ?_
        have HF := Lib.hid (LMS.all hHe13)
        clear hHe13 hHe12 hown12 hown13 hg12 hap2 hA2 hAy
        go_wp2
        go_ret
        exact ⟨rfl, HF.out⟩
      · skip
        refine event_step (v := .slice (some ⟨W6.heap.size, 0, none⟩) 1 1) (w1 := W6.alloc (.cells #[.bool y.f0, .string y.f1, .int .i64 y.f2, .int .i64 y.f3] 40)) (by rfl) (by go_simp; (try with_reducible rfl)) ?_
        refine hK.out _ _ (LMS.below hHeW6 (below_alloc (Below.refl _ _) _)) (fun hHeW10 => ?_)
        clear hK K
        refine norm_ (a' := ?_) ?_ ?_
        rotate_left
        · show Act.put _ (some 39) _ = _
          simp only [Act.put, List.setIfInBounds_toArray, List.set_cons_zero, List.set_cons_succ, i64_w, i32_w]
          rfl
        have hYW10 := heap_alloc_new W6 (.cells #[.bool y.f0, .string y.f1, .int .i64 y.f2, .int .i64 y.f3] 40)
        have hs11 : (W6.alloc (.cells #[.bool y.f0, .string y.f1, .int .i64 y.f2, .int .i64 y.f3] 40)).heap.size = W6.heap.size + 1 := by simp
        have hb11 := below_alloc (Below.refl W6.heap.size W6) (.cells #[.bool y.f0, .string y.f1, .int .i64 y.f2, .int .i64 y.f3] 40)
        have hownA := hOW6.alloc (.cells #[.bool y.f0, .string y.f1, .int .i64 y.f2, .int .i64 y.f3] 40)
        obtain ⟨g11, hg11⟩ : ∃ g, W6.heap.size = g := ⟨_, rfl⟩
        rw [hg11] at hYW10 hs11 ⊢
        generalize W6.alloc (.cells #[.bool y.f0, .string y.f1, .int .i64 y.f2, .int .i64 y.f3] 40) = W10 at *
        have HG11 := Lib.hid hg11
        clear hg11
        have hgne : g11 ≠ g7 := by have h1 : W6.heap.size = g11 := HG11.out; omega
        refine one_ (i := 9) (N := some 37) #[true, true, true, true, true, true, true, true, true, true, true, true, false, true, false, false, false, false] rfl rfl (by kernel_rfl) (by decide) (fun K hK => ?_)
        obtain ⟨v9, W9, hap, hown9, hg9, _⟩ := app_x W10 W8.heap.size (.slice (some ⟨g7, 0, none⟩) 0 0) 0 [] hownA A' c' r (LMS.arg hHeW10) (by have := HR.out.1; omega) (LMS.b hHeW10).size
        refine event_step (v := v9) (w1 := W9) (by rfl) (append_event rfl rfl rfl hap) ?_
        refine hK.out _ _ (LMS.grown hHeW10 hg9 (fun k hk => by have h2 : some g7 = some k := hk; injection h2 with h2; rw [← h2]; exact hg8)) (fun hHeW9 => ?_)
        clear hK K
        refine norm_ (a' := ?_) ?_ ?_
        rotate_left
        · show Act.put _ (some 37) _ = _
          simp only [Act.put, List.setIfInBounds_toArray, List.set_cons_zero, List.set_cons_succ, i64_w, i32_w]
          rfl
        have hY9 := (hg9.block g11 (blk_lt hYW10) (fun e => hgne (Option.some.inj e))).trans hYW10
        have hAy : ArgU W9 (some ⟨g11, 0, none⟩) 1 [y] := ⟨Or.inr ⟨g11, rfl, blk_lt hY9⟩, row_of_flat (blk_lt hY9) fun j u hj => by rw [blk_cell hY9 j]; show (flatU [y]).toArray[j]? = some u; rw [List.getElem?_toArray]; exact hj⟩
        refine one_ (i := 12) (N := some 40) #[true, true, true, true, true, true, true, true, true, true, true, true, true, true, false, false, false, false] rfl rfl (by kernel_rfl) (by decide) (fun K hK => ?_)
        obtain ⟨v12, W12, hap2, hown12, hg12, _⟩ := app_x W9 W8.heap.size v9 (0 + r.length) ([] ++ flatU r) hown9 (some ⟨g11, 0, none⟩) 1 [y] hAy (by have := HR.out.1; simp; omega) (LMS.b hHeW9).size
        refine event_step (v := v12) (w1 := W12) (by rfl) (append_event rfl rfl rfl hap2) ?_
        refine hK.out _ _ (LMS.grown hHeW9 hg12 (fun k hk => own_base hown9 k hk)) (fun hHe12 => ?_)
        clear hK K
        refine norm_ (a' := ?_) ?_ ?_
        rotate_left
        · show Act.put _ (some 40) _ = _
          simp only [Act.put, List.setIfInBounds_toArray, List.set_cons_zero, List.set_cons_succ, i64_w, i32_w]
          rfl
        have hown13 : W12.ownsRow W8.heap.size 40 4 v12 (r ++ [y]).length (flatU (r ++ [y])) := by simpa [flatU] using hown12
        obtain ⟨A2, c2, rfl, hA2⟩ := arg_of_own hown13
        refine one_ (i := 14) (N := some 42) #[true, true, true, true, true, true, true, true, true, true, true, true, true, true, true, false, false, false] rfl rfl (by kernel_rfl) (by decide) (fun K hK => ?_)
        refine call_ 17 #[.slice A2 (r ++ [y]).length c2, .string v1] (by rfl) rfl (by go_simp; (try with_reducible rfl)) ?_
        refine (order_n W12 A2 c2 (r ++ [y]) v1 hA2 (by have := HR.out.1; simp; omega) hval2 hvs).mono ?_
        rintro e6 W13 ⟨⟨b2, rfl, hb2⟩, hB13⟩
        obtain rfl : b2 = true := hb2.2 HO.out
        refine ⟨_, rfl, hK.out _ _ (LMS.below hHe12 hB13) (fun hHe13 => ?_)⟩
        clear hK K
        refine norm_ (a' := ?_) ?_ ?_
        rotate_left
        · show Act.put _ (some 42) _ = _
          simp only [Act.put, List.setIfInBounds_toArray, List.set_cons_zero, List.set_cons_succ, i64_w, i32_w]
          rfl
        refine pure_ (i := 15) (N := some 43) (v := ?_) (a' := ?_) #[true, true, true, true, true, true, true, true, true, true, true, true, true, true, true, true, false, false] rfl rfl (by kernel_rfl) (fun _ _ _ h => h) (Or.inl ⟨by rfl, ?_⟩) ?_ ?_
        rotate_left
        · (intro w'; go_simp; with_reducible rfl)
        rotate_left
        · simp only [Act.put, List.setIfInBounds_toArray, List.set_cons_zero, List.set_cons_succ, i64_w, i32_w]
          rfl
        refine pure_ (i := 16) (N := some 44) (v := ?_) (a' := ?_) #[true, true, true, true, true, true, true, true, true, true, true, true, true, true, true, true, true, false] rfl rfl (by kernel_rfl) (fun _ _ _ h => h) (Or.inl ⟨by rfl, ?_⟩) ?_ ?_
        rotate_left
        · (intro w'; go_simp; with_reducible rfl)
        rotate_left
        · simp only [Act.put, List.setIfInBounds_toArray, List.set_cons_zero, List.set_cons_succ, i64_w, i32_w]
          rfl
        refine pure_ (i := 17) (N := some 6) (v := ?_) (a' := ?_) #[true, true, true, true, true, true, true, true, true, true, true, true, true, true, true, true, true, true] rfl rfl (by kernel_rfl) (fun _ _ _ h => h) (Or.inl ⟨by rfl, ?_⟩) ?_ ?_
        rotate_left
        · (intro w'; go_simp; with_reducible rfl)
        rotate_left
        · simp only [Act.put, List.setIfInBounds_toArray, List.set_cons_zero, List.set_cons_succ, i64_w, i32_w]
          rfl
        refine done_ (by kernel_rfl) ?_
        have HF := Lib.hid (LMS.all hHe13)
        clear hHe13 hHe12 hown12 hown13 hg12 hap2 hA2 hAy
        go_wp2
        go_ret
        exact ⟨rfl, HF.out⟩
    · skip
      refine event_step (v := .slice (some ⟨W5.heap.size, 0, none⟩) 1 1) (w1 := W5.alloc (.cells #[.bool y.f0, .string y.f1, .int .i64 y.f2, .int .i64 y.f3] 40)) (by rfl) (by go_simp; (try with_reducible rfl)) ?_
      refine hK.out _ _ (LMS.below hHeld5 (below_alloc (Below.refl _ _) _)) (fun hHeW6 => ?_)
      clear hK K
      refine norm_ (a' := ?_) ?_ ?_
      rotate_left
      · show Act.put _ (some 39) _ = _
        simp only [Act.put, List.setIfInBounds_toArray, List.set_cons_zero, List.set_cons_succ, i64_w, i32_w]
        rfl
      have hYW6 := heap_alloc_new W5 (.cells #[.bool y.f0, .string y.f1, .int .i64 y.f2, .int .i64 y.f3] 40)
      have hs11 : (W5.alloc (.cells #[.bool y.f0, .string y.f1, .int .i64 y.f2, .int .i64 y.f3] 40)).heap.size = W5.heap.size + 1 := by simp
      have hb11 := below_alloc (Below.refl W5.heap.size W5) (.cells #[.bool y.f0, .string y.f1, .int .i64 y.f2, .int .i64 y.f3] 40)
      obtain ⟨g11, hg11⟩ : ∃ g, W5.heap.size = g := ⟨_, rfl⟩
      rw [hg11] at hYW6 hs11 ⊢
      generalize W5.alloc (.cells #[.bool y.f0, .string y.f1, .int .i64 y.f2, .int .i64 y.f3] 40) = W6 at *
      have HG11 := Lib.hid hg11
      clear hg11
      refine one_ (i := 7) (N := some 35) #[true, true, true, true, true, true, true, true, true, false, true, true, false, true, false, false, false, false] rfl rfl (by kernel_rfl) (by decide) (fun K hK => ?_)
      refine event_step (v := .slice (some ⟨W6.heap.size, 0, none⟩) 0 0) (w1 := W6.alloc (.cells #[] 40)) (by rfl) (by go_simp; (try with_reducible rfl)) ?_
      refine hK.out _ _ (LMS.below hHeW6 (below_alloc (Below.refl _ _) _)) (fun hHeW10 => ?_)
      clear hK K
      refine norm_ (a' := ?_) ?_ ?_
      rotate_left
      · show Act.put _ (some 35) _ = _
        simp only [Act.put, List.setIfInBounds_toArray, List.set_cons_zero, List.set_cons_succ, i64_w, i32_w]
        rfl
      have hOW10 := own_empty W6 W8.heap.size hHeW6.b.size
      obtain ⟨g7, hg7⟩ : ∃ g, W6.heap.size = g := ⟨_, rfl⟩
      have hb7a := below_alloc (Below.refl W6.heap.size W6) (.cells #[] 40)
      have hs7 : (W6.alloc (.cells #[] 40)).heap.size = g7 + 1 := by simp [hg7]
      have hg8 : W8.heap.size ≤ g7 := by rw [← hg7]; exact hHeW6.b.size
      rw [hg7] at hOW10 ⊢
      generalize W6.alloc (.cells #[] 40) = W10 at *
      have HG7 := Lib.hid hg7
      clear hg7
      have hYW10 := (hb7a.block g11 (blk_lt hYW6)).trans hYW6
      have hgne : g11 ≠ g7 := by have h1 : W6.heap.size = g7 := HG7.out; omega
      refine one_ (i := 9) (N := some 37) #[true, true, true, true, true, true, true, true, true, true, true, true, false, true, false, false, false, false] rfl rfl (by kernel_rfl) (by decide) (fun K hK => ?_)
      obtain ⟨v9, W9, hap, hown9, hg9, _⟩ := app_x W10 W8.heap.size (.slice (some ⟨g7, 0, none⟩) 0 0) 0 [] hOW10 A' c' r (LMS.arg hHeW10) (by have := HR.out.1; omega) (LMS.b hHeW10).size
      refine event_step (v := v9) (w1 := W9) (by rfl) (append_event rfl rfl rfl hap) ?_
      refine hK.out _ _ (LMS.grown hHeW10 hg9 (fun k hk => by have h2 : some g7 = some k := hk; injection h2 with h2; rw [← h2]; exact hg8)) (fun hHeW9 => ?_)
      clear hK K
      refine norm_ (a' := ?_) ?_ ?_
      rotate_left
      · show Act.put _ (some 37) _ = _
        simp only [Act.put, List.setIfInBounds_toArray, List.set_cons_zero, List.set_cons_succ, i64_w, i32_w]
        rfl
      have hY9 := (hg9.block g11 (blk_lt hYW10) (fun e => hgne (Option.some.inj e))).trans hYW10
      have hAy : ArgU W9 (some ⟨g11, 0, none⟩) 1 [y] := ⟨Or.inr ⟨g11, rfl, blk_lt hY9⟩, row_of_flat (blk_lt hY9) fun j u hj => by rw [blk_cell hY9 j]; show (flatU [y]).toArray[j]? = some u; rw [List.getElem?_toArray]; exact hj⟩
      refine one_ (i := 12) (N := some 40) #[true, true, true, true, true, true, true, true, true, true, true, true, true, true, false, false, false, false] rfl rfl (by kernel_rfl) (by decide) (fun K hK => ?_)
      obtain ⟨v12, W12, hap2, hown12, hg12, _⟩ := app_x W9 W8.heap.size v9 (0 + r.length) ([] ++ flatU r) hown9 (some ⟨g11, 0, none⟩) 1 [y] hAy (by have := HR.out.1; simp; omega) (LMS.b hHeW9).size
      refine event_step (v := v12) (w1 := W12) (by rfl) (append_event rfl rfl rfl hap2) ?_
      refine hK.out _ _ (LMS.grown hHeW9 hg12 (fun k hk => own_base hown9 k hk)) (fun hHe12 => ?_)
      clear hK K
      refine norm_ (a' := ?_) ?_ ?_
      rotate_left
      · show Act.put _ (some 40) _ = _
        simp only [Act.put, List.setIfInBounds_toArray, List.set_cons_zero, List.set_cons_succ, i64_w, i32_w]
        rfl
      have hown13 : W12.ownsRow W8.heap.size 40 4 v12 (r ++ [y]).length (flatU (r ++ [y])) := by simpa [flatU] using hown12
      obtain ⟨A2, c2, rfl, hA2⟩ := arg_of_own hown13
      refine one_ (i := 14) (N := some 42) #[true, true, true, true, true, true, true, true, true, true, true, true, true, true, true, false, false, false] rfl rfl (by kernel_rfl) (by decide) (fun K hK => ?_)
      refine call_ 17 #[.slice A2 (r ++ [y]).length c2, .string v1] (by rfl) rfl (by go_simp; (try with_reducible rfl)) ?_
      refine (order_n W12 A2 c2 (r ++ [y]) v1 hA2 (by have := HR.out.1; simp; omega) hval2 hvs).mono ?_
      rintro e6 W13 ⟨⟨b2, rfl, hb2⟩, hB13⟩
      obtain rfl : b2 = true := hb2.2 HO.out
      refine ⟨_, rfl, hK.out _ _ (LMS.below hHe12 hB13) (fun hHe13 => ?_)⟩
      clear hK K
      refine norm_ (a' := ?_) ?_ ?_
      rotate_left
      · show Act.put _ (some 42) _ = _
        simp only [Act.put, List.setIfInBounds_toArray, List.set_cons_zero, List.set_cons_succ, i64_w, i32_w]
        rfl
      refine pure_ (i := 15) (N := some 43) (v := ?_) (a' := ?_) #[true, true, true, true, true, true, true, true, true, true, true, true, true, true, true, true, false, false] rfl rfl (by kernel_rfl) (fun _ _ _ h => h) (Or.inl ⟨by rfl, ?_⟩) ?_ ?_
      rotate_left
      · (intro w'; go_simp; with_reducible rfl)
      rotate_left
      · simp only [Act.put, List.setIfInBounds_toArray, List.set_cons_zero, List.set_cons_succ, i64_w, i32_w]
        rfl
      refine pure_ (i := 16) (N := some 44) (v := ?_) (a' := ?_) #[true, true, true, true, true, true, true, true, true, true, true, true, true, true, true, true, true, false] rfl rfl (by kernel_rfl) (fun _ _ _ h => h) (Or.inl ⟨by rfl, ?_⟩) ?_ ?_
      rotate_left
      · (intro w'; go_simp; with_reducible rfl)
      rotate_left
      · simp only [Act.put, List.setIfInBounds_toArray, List.set_cons_zero, List.set_cons_succ, i64_w, i32_w]
        rfl
      refine pure_ (i := 17) (N := some 6) (v := ?_) (a' := ?_) #[true, true, true, true, true, true, true, true, true, true, true, true, true, true, true, true, true, true] rfl rfl (by kernel_rfl) (fun _ _ _ h => h) (Or.inl ⟨by rfl, ?_⟩) ?_ ?_
      rotate_left
      · (intro w'; go_simp; with_reducible rfl)
      rotate_left
      · simp only [Act.put, List.setIfInBounds_toArray, List.set_cons_zero, List.set_cons_succ, i64_w, i32_w]
        rfl
      refine done_ (by kernel_rfl) ?_
      have HF := Lib.hid (LMS.all hHe13)
      clear hHe13 hHe12 hown12 hown13 hg12 hap2 hA2 hAy
      go_wp2
      go_ret
      exact ⟨rfl, HF.out⟩
end Go.Proofs.Ythldophikcgkcaa.Y
namespace Go.Proofs.Ythldophikcgkcaa.X
open Go.RowKit Go.Proofs.YthldophikcgkcaaW.PrintWords Go.Proofs.Ythldophikcgkcaa.PSr
def tarnlaw40_SearchMore.f (_l0 : List S40) (_a1 : ByteArray) (_a2_0 : Bool) (_a2_1 : ByteArray) (_a2_2 _a2_3 : Int) : Option Bool := some true
theorem tarnlaw40_SearchMore.calls (A0 : Option Addr) (c0 : Nat) (l0 : List S40) (a1 : ByteArray) (a2_0 : Bool) (a2_1 : ByteArray) (a2_2 a2_3 : Int) (r : Bool) (w : World) (hr0 : Kd.C k40 w A0 l0.length l0) (hc0 : l0.length ≤ c0) (h : tarnlaw40_SearchMore.f l0 a1 a2_0 a2_1 a2_2 a2_3 = some r) :
    Calls Try.prog 5 #[.slice A0 l0.length c0, .string a1, .agg #[.bool a2_0, .string a2_1, .int .i64 a2_2, .int .i64 a2_3]] w fun e w' => e = .returned (.bool r) ∧ Below w.heap.size w w' := by
  obtain rfl := Option.some.inj h
  exact Y.walk_more A0 c0 l0 a1 a2_0 a2_1 a2_2 a2_3 w hr0 hc0
end Go.Proofs.Ythldophikcgkcaa.X
