/- tarnlaw40.awake; tarnlaw40.SearchOrders: the law's walk. -/
import Derived.Test.YthldophikcgkcaaSearchOrder
import Derived.Test.YthldophikcgkcaaSearchRef
import Derived.Test.YthldophikcgkcaaSearchNear
namespace Go.Proofs.Ythldophikcgkcaa.Y
set_option linter.unusedVariables false
set_option linter.unusedSimpArgs false
open Go.RowKit Go.Proofs Go.IntWalk Go.Proofs.YthldophikcgkcaaW.PrintWords Go.Proofs.YthldophikcgkcaaW.PrintLast Go.Proofs.YthldophikcgkcaaW.PrintMore Go.Proofs.Ythldophikcgkcaa.X Go.Proofs.Ythldophikcgkcaa.PSr

def chA : ByteArray := ⟨#[97]⟩
def uW : U := ⟨true, chA, 0, 1⟩
def uR : U := ⟨false, chA, 2, 3⟩
theorem ord_wr : Ord [uW, uR] 0 ⟨#[]⟩ := by
  refine .step 0 _ 0 (by decide) (by decide) (fun k hk => ?_) (Or.inl rfl) ?_
  · have hk' : k = 0 ∨ k = 1 := by simp at hk; omega
    rcases hk' with rfl | rfl
    · exact Or.inl rfl
    · exact Or.inr (Or.inr (by decide))
  · refine .step _ _ 1 (by decide) (by decide) (fun k hk => ?_) (Or.inr rfl) (.stop _ _ fun k hk => ?_)
    · have hk' : k = 0 ∨ k = 1 := by simp at hk; omega
      rcases hk' with rfl | rfl
      · exact Or.inr (Or.inl (by decide))
      · exact Or.inl rfl
    · have hk' : k = 0 ∨ k = 1 := by simp at hk; omega
      rcases hk' with rfl | rfl
      · exact Or.inl (by decide)
      · exact Or.inl (by decide)
theorem ord_r : ¬ Ord [uR] 0 ⟨#[]⟩ := by
  intro h
  rcases (ord_iff _ _ _).1 h with h1 | ⟨i, hi, h1⟩
  · rcases h1 0 (by decide) with h2 | h2
    · exact absurd h2 (by decide)
    · exact absurd h2 (by decide)
  · have hi' : i = 0 := by simp at hi; omega
    subst hi'
    rcases h1.2.2.1 with h2 | h2
    · exact absurd h2 (by decide)
    · exact absurd (congrArg ByteArray.size (show chA = ⟨#[]⟩ from h2)) (by decide)
theorem ord_nil (v : ByteArray) : Ord [] 0 v := .stop _ _ fun k hk => absurd hk (by simp)
theorem vals_small {l : List U} (h : ∀ x ∈ l, x.f1.size ≤ 1000) : Vals l := fun k hk => h _ (gU_mem hk)
/-- A slice that the call has just laid. -/
theorem arg_new (W : World) (l : List U) (c : Nat) (cs : List Value) (hcs : cs = flatU l) (w' : World) (hb : w'.heap[W.heap.size]? = some (.cells cs.toArray 40 (0, 0))) : ArgU w' (some ⟨W.heap.size, 0, none⟩) c l := by
  subst hcs
  have hlt : W.heap.size < w'.heap.size := blk_lt hb
  refine ⟨Or.inr ⟨_, rfl, hlt⟩, row_of_flat hlt fun j u hj => ?_⟩
  have := blk_cell hb j
  rw [this]
  simpa using hj
set_option maxHeartbeats 4000000 in
set_option maxRecDepth 100000 in
theorem awake_n (w : World) : Calls Try.prog 16 #[] w fun e w' => e = .returned (.bool true) ∧ Below w.heap.size w w' := by
  have hu40 := Try.underlying40
  go_enter Try.func16, Try.ntmps16
  go_wp2_with fail
  have h1 : (((w.alloc (.cells #[.bool true, .string ⟨#[97]⟩, .int .i64 0, .int .i64 1] 40)).alloc (.cells #[.bool false, .string ⟨#[97]⟩, .int .i64 2, .int .i64 3] 40)).alloc (.cells #[.bool true, .string ⟨#[97]⟩, .int .i64 0, .int .i64 1, .bool false, .string ⟨#[97]⟩, .int .i64 2, .int .i64 3] 40)).heap[w.heap.size + 1]? = some (.cells #[.bool false, .string ⟨#[97]⟩, .int .i64 2, .int .i64 3] 40 (0, 0)) := by
    rw [heap_alloc_old _ _ (by simp)]
    have := heap_alloc_new (w.alloc (.cells #[.bool true, .string ⟨#[97]⟩, .int .i64 0, .int .i64 1] 40)) (.cells #[.bool false, .string ⟨#[97]⟩, .int .i64 2, .int .i64 3] 40)
    simpa using this
  have h2 : (((w.alloc (.cells #[.bool true, .string ⟨#[97]⟩, .int .i64 0, .int .i64 1] 40)).alloc (.cells #[.bool false, .string ⟨#[97]⟩, .int .i64 2, .int .i64 3] 40)).alloc (.cells #[.bool true, .string ⟨#[97]⟩, .int .i64 0, .int .i64 1, .bool false, .string ⟨#[97]⟩, .int .i64 2, .int .i64 3] 40)).heap[w.heap.size + 1 + 1]? = some (.cells #[.bool true, .string ⟨#[97]⟩, .int .i64 0, .int .i64 1, .bool false, .string ⟨#[97]⟩, .int .i64 2, .int .i64 3] 40 (0, 0)) := by
    have := heap_alloc_new ((w.alloc (.cells #[.bool true, .string ⟨#[97]⟩, .int .i64 0, .int .i64 1] 40)).alloc (.cells #[.bool false, .string ⟨#[97]⟩, .int .i64 2, .int .i64 3] 40)) (.cells #[.bool true, .string ⟨#[97]⟩, .int .i64 0, .int .i64 1, .bool false, .string ⟨#[97]⟩, .int .i64 2, .int .i64 3] 40)
    simpa using this
  have hb0 := below_alloc (below_alloc (below_alloc (Below.refl w.heap.size w) (.cells #[.bool true, .string ⟨#[97]⟩, .int .i64 0, .int .i64 1] 40)) (.cells #[.bool false, .string ⟨#[97]⟩, .int .i64 2, .int .i64 3] 40)) (.cells #[.bool true, .string ⟨#[97]⟩, .int .i64 0, .int .i64 1, .bool false, .string ⟨#[97]⟩, .int .i64 2, .int .i64 3] 40)
  generalize ((w.alloc (.cells #[.bool true, .string ⟨#[97]⟩, .int .i64 0, .int .i64 1] 40)).alloc (.cells #[.bool false, .string ⟨#[97]⟩, .int .i64 2, .int .i64 3] 40)).alloc (.cells #[.bool true, .string ⟨#[97]⟩, .int .i64 0, .int .i64 1, .bool false, .string ⟨#[97]⟩, .int .i64 2, .int .i64 3] 40) = W0 at *
  have hlt : w.heap.size + 1 + 1 < W0.heap.size := blk_lt h2
  have hA : ArgU W0 (some ⟨w.heap.size + 1 + 1, 0, none⟩) 2 [uW, uR] := ⟨Or.inr ⟨_, rfl, hlt⟩, row_of_flat hlt fun j u hj => by rw [blk_cell h2 j]; show (flatU [uW, uR]).toArray[j]? = some u; rw [List.getElem?_toArray]; exact hj⟩
  refine (order_n W0 _ 2 [uW, uR] ⟨#[]⟩ hA (by decide) (vals_small (by decide)) (by decide)).mono ?_
  rintro e1 W1 ⟨⟨b, rfl, hb⟩, hB1⟩
  obtain rfl : b = true := hb.2 ord_wr
  have hU := (hB1.block _ (blk_lt h1)).trans h1
  have hBB := below_step hb0 hB1
  have q0 : W1.cell? ⟨w.heap.size + 1, 0, none⟩ = some (.bool false) := blk_cell hU 0
  have q1 : W1.cell? ⟨w.heap.size + 1, 1, none⟩ = some (.string ⟨#[97]⟩) := blk_cell hU 1
  have q2 : W1.cell? ⟨w.heap.size + 1, 2, none⟩ = some (.int .i64 2) := blk_cell hU 2
  have q3 : W1.cell? ⟨w.heap.size + 1, 3, none⟩ = some (.int .i64 3) := blk_cell hU 3
  have HB := Lib.hid hBB
  clear h1 h2 hb0 hA hb hB1 hU hBB hlt
  go_wp2_with fail
  have h3 := heap_alloc_new W1 (.cells #[.bool false, .string ⟨#[97]⟩, .int .i64 2, .int .i64 3] 40)
  have hb3 := below_alloc HB.out (.cells #[.bool false, .string ⟨#[97]⟩, .int .i64 2, .int .i64 3] 40)
  generalize W1.alloc (.cells #[.bool false, .string ⟨#[97]⟩, .int .i64 2, .int .i64 3] 40) = W2 at *
  have hlt : W1.heap.size < W2.heap.size := blk_lt h3
  have hA : ArgU W2 (some ⟨W1.heap.size, 0, none⟩) 1 [uR] := ⟨Or.inr ⟨_, rfl, hlt⟩, row_of_flat hlt fun j u hj => by rw [blk_cell h3 j]; show (flatU [uR]).toArray[j]? = some u; rw [List.getElem?_toArray]; exact hj⟩
  refine (order_n W2 _ 1 [uR] ⟨#[]⟩ hA (by decide) (vals_small (by decide)) (by decide)).mono ?_
  rintro e2 W3 ⟨⟨b, rfl, hb⟩, hB3⟩
  have hbf : b = false := by
    cases b with
    | false => rfl
    | true => exact absurd (hb.1 rfl) ord_r
  subst hbf
  have HB3 := Lib.hid (below_step hb3 hB3)
  clear h3 hb3 hA hb hB3 q0 q1 q2 q3 hlt HB
  go_wp2_with fail
  have hA : ArgU W3 none 0 [] := ⟨Or.inl ⟨rfl, rfl⟩, fun k hk => absurd hk (by simp)⟩
  refine (order_n W3 none 0 [] ⟨#[120]⟩ hA (by decide) (vals_small (by decide)) (by decide)).mono ?_
  rintro e3 W4 ⟨⟨b, rfl, hb⟩, hB4⟩
  obtain rfl : b = true := hb.2 (ord_nil _)
  have HB4 := Lib.hid (below_step HB3.out hB4)
  clear hA hb hB4
  go_wp2
  go_ret
  exact ⟨rfl, HB4.out⟩
set_option maxHeartbeats 4000000 in
set_option maxRecDepth 100000 in
theorem walk_orders (A : Option Addr) (c : Nat) (l : List U) (s : ByteArray) (once : Bool) (w : World) (hC : Kd.C k40 w A l.length l) (hc : l.length ≤ c) :
    Calls Try.prog 4 #[.slice A l.length c, .string s, .bool once] w fun e w' => e = .returned (.bool true) ∧ Below w.heap.size w w' := by
  obtain ⟨r, hnr, hr7, hrn⟩ := near_f l once
  have HN := Lib.hid (tarnlaw40_near.calls 100 A c l once r w hC hc hnr)
  have HR := Lib.hid (And.intro hr7 hrn)
  clear hC hnr hr7 hrn
  go_enter Try.func4, Try.ntmps4
  go_wp2_with fail
  refine HN.out.mono ?_
  rintro e1 W1 ⟨v0, rfl, hR, hB1⟩
  obtain ⟨A', c', rfl, hcc, hArg⟩ := arg_of_R hR
  have HX := Lib.hid (And.intro hArg hB1)
  clear hR hArg hB1 HN
  go_wp2_with fail
  obtain ⟨v1, hv1⟩ : ∃ v1, s.extract 0 (min (s.size : Int) 1).toNat = v1 := ⟨_, rfl⟩
  have hvs : v1.size ≤ 1000 := by
    rw [← hv1, ByteArray.size_extract]
    omega
  rw [hv1]
  clear hv1
  refine (awake_n W1).mono ?_
  rintro e2 W2 ⟨rfl, hB2⟩
  have hA2 := HX.out.1.below hB2
  have hBB2 := below_step HX.out.2 hB2
  have HX2 := Lib.hid (And.intro hA2 hBB2)
  clear hA2 hBB2 hB2 HX
  have hval : Vals r := vals_small fun x hx => Nat.le_trans (HR.out.2 x hx).1 (by decide)
  go_wp2_with fail
  refine (order_n W2 A' c' r v1 HX2.out.1 (Nat.le_trans HR.out.1 (by decide)) hval hvs).mono ?_
  rintro e3 W3 ⟨⟨b1, rfl, hb1⟩, hB3⟩
  have HX3 := Lib.hid (And.intro (HX2.out.1.below hB3) (below_step HX2.out.2 hB3))
  clear HX2 hB3
  go_wp2_with fail
  refine (ref_n A' c' r (Nat.le_trans HR.out.1 (by decide)) (2 ^ r.length) 0 v1 W3 (Nat.sub_le _ _) (Nat.two_pow_pos _) HX3.out.1.r).mono ?_
  rintro e4 W4 ⟨⟨b2, rfl, hb2⟩, hB4⟩
  have hbe : b1 = b2 := by
    cases b1 <;> cases b2 <;> first | rfl | exact absurd (hb1.2 (hb2.1 rfl)) (by decide) | exact absurd (hb2.2 (hb1.1 rfl)) (by decide)
  subst hbe
  have HB4 := Lib.hid (below_step HX3.out.2 hB4)
  clear hb1 hb2 hB4
  cases b1 with
  | true =>
    go_wp2
    go_ret
    exact ⟨rfl, HB4.out⟩
  | false =>
    go_wp2
    go_ret
    exact ⟨rfl, HB4.out⟩
end Go.Proofs.Ythldophikcgkcaa.Y
