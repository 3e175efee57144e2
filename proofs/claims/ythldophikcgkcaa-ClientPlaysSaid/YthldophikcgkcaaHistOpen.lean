/- client.History: Open: the numbers that are open, rising. -/
import Derived.Test.YthldophikcgkcaaHistAll
import Derived.Maps.RangeWalk
import Derived.Sort.OwnSortedInts
import Derived.Lib.OwnBridge
namespace Go.Proofs.Ythldophikcgkcaa.Y
set_option linter.unusedVariables false
set_option linter.unusedSimpArgs false
open Go.RowKit Go.Shelf Go.Proofs Go.Maps Go.IntWalk Go.Sort Go.Proofs.YthldophikcgkcaaW.PrintWords Go.Proofs.YthldophikcgkcaaW.PrintLast Go.Proofs.YthldophikcgkcaaW.PrintMore Go.Proofs.Ythldophikcgkcaa.X

/-- The keys that have come: each once, those that are there and are not still to come. -/
structure Came (S : Int → Prop) (left : Lit → Bool) (L : List Int) : Prop where
  nd : L.Nodup
  wf : ∀ x ∈ L, InI x
  mem : ∀ x, InI x → (x ∈ L ↔ S x ∧ left (.int .i64 x) = false)
theorem sub_len2 : ∀ {l o : List Int}, l.Nodup → (∀ x ∈ l, x ∈ o) → l.length ≤ o.length
  | [], _, _, _ => Nat.zero_le _
  | x :: l, o, hn, hs => by
    have hx := hs x (by simp)
    have h1 := List.nodup_cons.1 hn
    have h2 := sub_len2 (l := l) (o := o.erase x) h1.2 (fun y hy => (List.mem_erase_of_ne (by rintro rfl; exact h1.1 hy)).2 (hs y (List.mem_cons_of_mem _ hy)))
    rw [List.length_erase_of_mem hx] at h2
    have h3 := List.length_pos_of_mem hx
    simp only [List.length_cons]
    omega
theorem len_le {L : List Int} {n : Int} (hn : L.Nodup) (h : ∀ x ∈ L, 1 ≤ x ∧ x ≤ n) : L.length ≤ n.toNat := by
  have := sub_len2 (l := L) (o := (List.range n.toNat).map fun i : Nat => (i : Int) + 1) hn (fun x hx => by
    have := h x hx
    rw [List.mem_map]
    exact ⟨(x - 1).toNat, by rw [List.mem_range]; omega, by omega⟩)
  simpa using this
theorem same_int (x : Int) : (Lit.int .i64 x).sameKey (.int .i64 x) = true := WideAt.sameKey_self (show WideAt.IsKeyLit (Lit.int .i64 x) from trivial)
theorem came_next {S : Int → Prop} {left : Lit → Bool} {L : List Int} (h : Came S left L) {x : Int} (hx : InI x) (hl : left (.int .i64 x) = true) (hS : S x) : Came S (fun z => left z && !z.sameKey (.int .i64 x)) (L ++ [x]) := by
  have hxL : x ∉ L := fun hm => by
    have := ((h.mem x hx).1 hm).2
    rw [hl] at this
    exact absurd this (by decide)
  refine ⟨?_, ?_, ?_⟩
  · rw [List.nodup_append]
    refine ⟨h.nd, by simp, fun a ha b hb e => ?_⟩
    rw [List.mem_singleton] at hb
    exact hxL (by rw [← hb, ← e]; exact ha)
  · intro z hz
    rcases List.mem_append.1 hz with hz | hz
    · exact h.wf z hz
    · rw [List.mem_singleton] at hz; rw [hz]; exact hx
  · intro z hz
    by_cases c : z = x
    · subst c
      rw [same_int]
      simp [hS]
    · rw [Maps.sameKey_ne (litI_ne c)]
      simp [c]
      exact h.mem z hz
theorem wf_in {x : Int} (h : (Lit.int .i64 x).wf = true) : InI x := by
  have e1 : IntKind.i64.min = -9223372036854775808 := by decide
  have e2 : IntKind.i64.max = 9223372036854775807 := by decide
  simp [Lit.wf, e1, e2] at h
  exact h
set_option maxRecDepth 100000 in
theorem inv_bool {v : Value} {y : DataW Unit × List MemPlace} (h : plainElem (H := Unit) Try.prog 4 v = some y) : ∃ c : Bool, v = .bool c := by
  unfold plainElem at h
  rw [Try.underlying4] at h
  cases v with
  | bool b => exact ⟨b, rfl⟩
  | _ => exact absurd h (by simp)
theorem info_int : (Try.prog.info? 3).map (fun i => (i.zero, i.size, i.bytes)) = some (some (.int .i64 0), 1, 8) := by kernel_rfl
set_option maxHeartbeats 8000000 in
set_option maxRecDepth 100000 in
theorem open_loop (w : World) (F : Nat → Prop) (gh bm : Nat) (v : Value) (evs : List EvV) (op : Int → Prop) (next : Int) (H : HI w F gh bm v evs op next) (hnx : next ≤ 1000000) (hS : ∀ x, op x → 1 ≤ x ∧ x ≤ next) (Q : World → Value → Prop)
    (hsort : ∀ (wr : World) (v3 : Value) (L : List Int), wr.ownsRow (w.heap.size + 1) 3 1 v3 L.length (nums .i64 L) → Below w.heap.size w wr → L.Nodup → (∀ x, x ∈ L ↔ op x) → Calls Try.prog 45 #[v3] wr fun e w' => e = .returned (.tuple #[]) ∧ Below w.heap.size w w' ∧ Q w' v3) :
    Calls Try.prog 28 #[.pointer (some ⟨gh, 0, none⟩)] w fun e w' => ∃ v', e = .returned v' ∧ Below w.heap.size w w' ∧ Q w' v' := by
  obtain ⟨q0, q1, q2⟩ := H.cells
  have HBM := Lib.hid (H.lt _ H.fm)
  obtain ⟨N, hN, D, hD, hDS⟩ := H.m
  have HSO := Lib.hid hsort
  have HSX := Lib.hid hS
  have HDS := Lib.hid hDS
  clear H hsort hDS hS
  go_enter Try.func28, Try.ntmps28
  go_wp2_with (first | (at_range; refine wpList_range_own _ rfl _ 100 rfl 3 4 intLaw Try.underlying100 (plainElem Try.prog 4) bm N D rfl hD ?_; intro w0 hrg0 hg0 hs0) | fail)
  go_frame
  have hb0 : Below w.heap.size w w0 := ⟨hg0.os, hg0.tape, hg0.output, hg0.size, fun k hk => hg0.block k hk (by simp)⟩
  have H0 := Lib.hid (And.intro hrg0 (And.intro hb0 hs0))
  clear hrg0 hg0 hs0 hb0 q0 q1 q2 hD
  go_loopw [3] (fun v3 wr => ∃ (L : List Int) (left : Lit → Bool) (cnt : Nat), wr.ranges Try.prog 3 (plainElem Try.prog 4) bm w.heap.size N D left cnt ∧ wr.ownsRow (w.heap.size + 1) 3 1 v3 L.length (nums .i64 L) ∧ Came op left L ∧ Below w.heap.size w wr ∧ w.heap.size + 1 ≤ wr.heap.size) (fun _ wr => wr.rangeLeft bm w.heap.size)
  case atStart =>
    refine ⟨[], _, _, H0.out.1, World.ownsRow_nil _ _ _ _, ⟨List.nodup_nil, fun x hx => absurd hx (List.not_mem_nil), fun x hx => ⟨fun h => absurd h (List.not_mem_nil), fun h => ?_⟩⟩, H0.out.2.1, by rw [H0.out.2.2]; exact Nat.le_refl _⟩
    have := ((HDS.out x hx).1.2 h.1).symm.trans h.2
    exact absurd this (by decide)
  case round =>
    obtain ⟨L, left, cnt, hrg, hown, hC, hB, hsz⟩ := hrel
    clear H0
    have HX := Lib.hid (And.intro hown (And.intro hC (And.intro hB hsz)))
    clear hown hC hB hsz
    go_wp2_with (first | (at_next; refine wpList_next_ranges _ rfl _ rfl 3 intLaw (plainElem Try.prog 4) (fun x : Int => .int .i64 x) (fun c : Bool => .bool c) (fun key kl h => by obtain ⟨x, h1, _⟩ := Maps.keyOf_int_inv Try.underlying3 h; exact ⟨x, h1⟩) (fun v y h => inv_bool h) bm w.heap.size N D left cnt rfl hrg ?_ ?_) | fail)
    · intro hc0 hl0
      have hmem : ∀ x, x ∈ L ↔ op x := fun x => by
        constructor
        · intro h; exact ((HX.out.2.1.mem x (HX.out.2.1.wf x h)).1 h).1
        · intro h
          have hb := HSX.out x h
          exact (HX.out.2.1.mem x ⟨by omega, by omega⟩).2 ⟨h, hl0 _⟩
      have HC := Lib.hid (HSO.out _ _ _ HX.out.1 HX.out.2.2.1 HX.out.2.1.nd hmem)
      clear hmem hl0 hrg
      go_wp2_with fail
      refine HC.out.mono ?_
      rintro e1 W1 ⟨rfl, hB1, hQ⟩
      have HH := Lib.hid (And.intro hB1 hQ)
      clear hB1 hQ
      go_wp2
      go_ret
      exact ⟨_, rfl, HH.out.1, HH.out.2⟩
    · intro x
      refine ⟨?_, ?_⟩
      all_goals
        intro kl ya yb w1 cnt1 hkx hlk hRv hat hrg1 hlt hg1 hs1 hen
        obtain ⟨x', hx1, rfl, hwf⟩ := Maps.keyOf_int_inv Try.underlying3 hkx
        injection hx1 with hx1 hx2
        subst hx2
        have hxI : InI x := wf_in hwf
        have hSx : op x := (HDS.out x hxI).1.1 (Maps.has_true_of_atKey hat)
        have hC1 := came_next HX.out.2.1 hxI hlk hSx
        have hxb := HSX.out x hSx
        have hown1 := HX.out.1.kept hg1 (by
          rcases own_base' HX.out.1 with h | ⟨b, h, hb⟩
          · exact Or.inl h
          · exact Or.inr (fun e => by rw [h] at e; have : b = w.heap.size := Option.some.inj e; omega))
        have hB1 : Below w.heap.size w w1 := ⟨hg1.os.trans HX.out.2.2.1.os, hg1.tape.trans HX.out.2.2.1.tape, hg1.output.trans HX.out.2.2.1.output, Nat.le_trans HX.out.2.2.1.size hg1.size, fun k hk => (hg1.block k (Nat.lt_of_lt_of_le hk HX.out.2.2.1.size) (fun e => by have : k = w.heap.size := Option.some.inj e; omega)).trans (HX.out.2.2.1.block k hk)⟩
        have hL : L.length ≤ 1000000 := by
          have := len_le HX.out.2.1.nd (n := next) (fun z hz => HSX.out z ((HX.out.2.1.mem z (HX.out.2.1.wf z hz)).1 hz).1)
          omega
        have hz1 : w.heap.size + 1 ≤ w1.heap.size := by rw [hs1]; exact HX.out.2.2.2
        have hle := hrg.left_eq
        have HY := Lib.hid (And.intro hown1 (And.intro hC1 (And.intro hB1 (And.intro hz1 (And.intro hrg1 (And.intro hlt hle))))))
        clear hown1 hC1 hB1 hz1 hrg1 hg1 hs1 hkx hlk hRv hat hrg hSx hle HX
        go_wp2_with (first | ((with_reducible refine gate_builtin (b := .append) (xs := #[.tmp 16, .tmp 18]) rfl ?_); at_builtin; refine print_append_num (w0 := w1) (w.heap.size + 1) rfl (.tmp 16) (.tmp 18) 22 3 .i64 8 rfl Try.underlying22 info_int (by decide) _ L x rfl rfl HY.out.1 (Below.refl _ _) HY.out.2.2.2.1 (by omega) ?_; intro v1 w2 hown2 hB2 hg2 hat2) | fail)
        go_roundw
        case rel =>
          have hr1 : w1.ranges Try.prog 3 (plainElem Try.prog 4) bm w.heap.size N D (fun z => left z && !z.sameKey (Lit.int .i64 x)) cnt1 := HY.out.2.2.2.2.1
          have hB := HY.out.2.2.1
          have hrow : u3.ownBlock = none ∨ ∃ b, u3.ownBlock = some b ∧ w.heap.size + 1 ≤ b := own_base' HY.out.1
          have hg3 : w1.grownBy w2 u3.ownBlock := hg2
          have hbm : bm < w.heap.size := HBM.out
          refine ⟨L ++ [x], _, cnt1, hr1.kept hg3 ?_ ?_, hown2, HY.out.2.1, ⟨hB2.os.trans hB.os, hB2.tape.trans hB.tape, hB2.output.trans hB.output, Nat.le_trans hB.size hB2.size, fun k hk => (hB2.block k (by omega)).trans (hB.block k hk)⟩, Nat.le_trans HY.out.2.2.2.1 hB2.size⟩
          · rcases hrow with h | ⟨b, h, hb⟩
            · rw [h]; simp
            · rw [h]; intro e; have := Option.some.inj e; omega
          · rcases hrow with h | ⟨b, h, hb⟩
            · rw [h]; simp
            · rw [h]; intro e; have := Option.some.inj e; omega
        case measure =>
          have hr1 : w1.ranges Try.prog 3 (plainElem Try.prog 4) bm w.heap.size N D (fun z => left z && !z.sameKey (Lit.int .i64 x)) cnt1 := HY.out.2.2.2.2.1
          have hrow : u3.ownBlock = none ∨ ∃ b, u3.ownBlock = some b ∧ w.heap.size + 1 ≤ b := own_base' HY.out.1
          have hg3 : w1.grownBy w2 u3.ownBlock := hg2
          have hbm : bm < w.heap.size := HBM.out
          have hr2 := hr1.kept hg3 (by
            rcases hrow with h | ⟨b, h, hb⟩
            · rw [h]; simp
            · rw [h]; intro e; have := Option.some.inj e; omega) (by
            rcases hrow with h | ⟨b, h, hb⟩
            · rw [h]; simp
            · rw [h]; intro e; have := Option.some.inj e; omega)
          have e1 := hr2.left_eq
          have e2 := HY.out.2.2.2.2.2.2
          omega
end Go.Proofs.Ythldophikcgkcaa.Y
