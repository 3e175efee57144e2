/- flat.Flat: a volume of blocks in plain memory: what it is in memory; New. -/
import Derived.Test.YthldophikcgkcabAskPure
import Derived.Test.YthldophikcgkcabWWords
import Derived.Test.YthldophikcgkcabWLast
import Derived.Test.YthldophikcgkcabWMore
import Derived.Test.YthldophikcgkcabAid
import Derived.Maps.AppendAt
import Derived.Carry
import Derived.LoopTactic
import Derived.Lib.Hide
import Derived.Deep.Light
namespace Go.Proofs.Ythldophikcgkcab.Y
set_option linter.unusedVariables false
set_option linter.unusedSimpArgs false
open Go.RowKit Go.Proofs Go.IntWalk Go.Proofs.YthldophikcgkcabW.PrintWords Go.Proofs.YthldophikcgkcabW.PrintLast Go.Proofs.YthldophikcgkcabW.PrintMore Go.Proofs.Ythldophikcgkcab.X Go.Proofs.Ythldophikcgkcab.PFlat

/-- A volume in memory: its one cell holds a row of strings. -/
structure FI (w : World) (g : Nat) (v : Value) (L : List ByteArray) (base : Nat) : Prop where
  h : w.heap[g]? = some (.cells #[v] 100 (0, 0))
  r : w.ownsRow base 9 1 v L.length (encs Value.string L)
  n : v.ownBlock ≠ some g
  b : base ≤ g
theorem own_lt {w : World} {B : Nat} {e : TypeId} {sz n : Nat} {v : Value} {xs : List Value} (h : w.ownsRow B e sz v n xs) {k : Nat} (hk : v.ownBlock = some k) : k < w.heap.size := by
  rcases h.2 with ⟨rfl, h0⟩ | ⟨g, cap, cur, rfl, _, hcur, _⟩
  · exact absurd hk (by simp [Value.ownBlock])
  · have : g = k := Option.some.inj hk
    rw [← this]
    exact (Array.getElem?_eq_some_iff.1 hcur).1
theorem own_blk {W W' : World} {B : Nat} {e : TypeId} {s n : Nat} {v : Value} {xs : List Value} (h : W.ownsRow B e s v n xs) (hb : ∀ k, v.ownBlock = some k → W'.heap[k]? = W.heap[k]?) : W'.ownsRow B e s v n xs := by
  refine ⟨h.1, ?_⟩
  rcases h.2 with h0 | ⟨g, cap, cur, rfl, hB, hcur, hr⟩
  · exact Or.inl h0
  · exact Or.inr ⟨g, cap, cur, rfl, hB, (hb g rfl).trans hcur, hr⟩
theorem own_slice {w : World} {B : Nat} {e : TypeId} {sz n : Nat} {v : Value} {xs : List Value} (h : w.ownsRow B e sz v n xs) : ∃ A c, v = .slice A n c := by
  rcases h.2 with ⟨rfl, h0⟩ | ⟨g, cap, cur, rfl, _⟩
  · subst h0; exact ⟨_, _, rfl⟩
  · exact ⟨_, _, rfl⟩
theorem FI.below {w w' : World} {g : Nat} {v : Value} {L : List ByteArray} {base : Nat} (h : FI w g v L base) (hb : Below w.heap.size w w') : FI w' g v L base :=
  ⟨(hb.block g (blk_lt h.h)).trans h.h, own_blk h.r fun k hk => hb.block k (own_lt h.r hk), h.n, h.b⟩
theorem info_str : (Try.prog.info? 9).map (fun i => (i.zero, i.size, i.bytes)) = some (some (.string ⟨#[]⟩), 1, 16) := by kernel_rfl
theorem add_any (g o i : Nat) : (⟨g, o, none⟩ : Addr).add i = ⟨g, o + i, none⟩ := by unfold Addr.add; split <;> simp_all
theorem append_event2 {P : Program} {t : TypeId} {o : Oper} {s x : Operand} {a : Act} {W w' : World} {v u v' : Value} (ho : o.op = .call { callee := .builtin .append, args := #[s, x], argTypes := #[t, t] }) (hs : a.eval s = v) (hx : a.eval x = u)
    (hr : (Builtin.append_ #[t, t] o.type #[v, u]).run P W = .ok v' w') : (execOp a.eval o).run P W = .ok (.value v') w' := by
  unfold execOp
  simp only [ho, resolve, invoke, builtin, Sem.run_bind, Sem.run_pure, Result.andThen_ok, List.map_toArray, List.map_cons, List.map_nil, hs, hx, hr]
set_option maxRecDepth 100000 in
/-- A string is appended: the row that comes of it. -/
theorem app_s (W : World) (base : Nat) (v : Value) (L : List ByteArray) (gs : Nat) (x : ByteArray) (HO : W.ownsRow base 9 1 v L.length (encs Value.string L)) (hgs : W.heap[gs]? = some (.cells #[.string x] 9 (0, 0))) (hl : L.length ≤ 1000) (hbase : base ≤ W.heap.size) :
    ∃ v1 w1, (Builtin.append_ #[61, 61] 61 #[v, .slice (some ⟨gs, 0, none⟩) 1 1]).run Try.prog W = .ok v1 w1 ∧ w1.ownsRow base 9 1 v1 (L ++ [x]).length (encs Value.string (L ++ [x])) ∧ W.grownBy w1 v.ownBlock ∧ (v1.ownBlock = v.ownBlock ∨ v1.ownBlock = some W.heap.size) := by
  obtain ⟨i0, hi, hzz⟩ := Option.map_eq_some_iff.1 info_str
  simp only [Prod.mk.injEq] at hzz
  obtain ⟨hz0, hz1, hz2⟩ := hzz
  obtain ⟨v1, w1, hr, h2, h3, _, h5⟩ := run_append_own_at (P := Try.prog) W base 61 61 9 i0 (.string ⟨#[]⟩) 1 16 Try.underlying61 hi hz0 hz1 hz2 rfl (by omega) v L.length (encs Value.string L) HO ⟨gs, 0, none⟩ 1 1 [.string x] rfl
    (fun j u hu => by rw [add_any, Nat.zero_add, blk_cell hgs j, List.getElem?_toArray]; exact hu) (by intro u hu; simp at hu; subst hu; rfl) (by simp only [maxLen]; omega) (by omega) hbase
  exact ⟨v1, w1, hr, by simpa [encs] using h2, h3, h5⟩
theorem zeros_n (w : World) : Calls Try.prog 52 #[] w fun e w' => e = .returned (.string zeros) ∧ Below w.heap.size w w' :=
  flat_zeros.calls zeros w (by unfold flat_zeros.f; rw [repeat_zeros]; rfl)
set_option maxHeartbeats 8000000 in
set_option maxRecDepth 100000 in
theorem new_n (w : World) (n : Nat) (hn : n ≤ 64) : Calls Try.prog 26 #[.int .i64 (n : Int)] w fun e w' => ∃ g v, e = .returned (.pointer (some ⟨g, 0, none⟩)) ∧ FI w' g v (List.replicate n zeros) w.heap.size ∧ Below w.heap.size w w' := by
  have hn1 : (n : Int) ≤ 64 := by omega
  have hb0 := below_alloc (Below.refl w.heap.size w) (.cells #[.slice none 0 0] 100)
  have hx0 := heap_alloc_new w (.cells #[.slice none 0 0] 100)
  have H0 := Lib.hid (And.intro (FI.mk (L := []) hx0 (World.ownsRow_nil _ w.heap.size _ _) (fun h => by cases h) (Nat.le_refl w.heap.size)) hb0)
  clear hb0 hx0
  go_enter Try.func26, Try.ntmps26
  go_wp2_with fail
  go_loopw [9] (fun v9 wr => ∃ (k : Nat) (v : Value), k ≤ n ∧ v9 = .int .i64 (k : Int) ∧ FI wr w.heap.size v (List.replicate k zeros) w.heap.size ∧ Below w.heap.size w wr) (fun v => fun _ => n - (intOf v).toNat)
  case atStart => exact ⟨0, _, by omega, rfl, H0.out.1, H0.out.2⟩
  case round =>
    obtain ⟨k, v, hk, rfl, hF, hB⟩ := hrel
    clear H0
    have HK := Lib.hid (And.intro hF hB)
    clear hF hB
    by_cases ck : (k : Int) < (n : Int)
    · have hkn : k < n := by omega
      have hk6 : (List.replicate k zeros).length ≤ 1000 := by simp; omega
      clear hn1 hn hk
      go_wp2_with fail
      refine start_ (n := 11) (S := (fun w' => w'.heap[w.heap.size]? = some (.cells #[v] 100 (0, 0)))) (ds := ([10] : List Nat)) #[false, false, false, false, false, false, false, false, false, false, false] (by kernel_rfl) rfl rfl (HK.out.1.h) (fun hHeld => ?_)
      refine pure_ (i := 0) (N := some 11) (v := ?_) (a' := ?_) #[true, false, false, false, false, false, false, false, false, false, false] rfl rfl (by kernel_rfl) (fun _ _ _ h => h) (Or.inl ⟨by rfl, ?_⟩) ?_ ?_
      rotate_left
      · (intro w'; go_simp; with_reducible rfl)
      rotate_left
      · simp only [Act.put, List.setIfInBounds_toArray, List.set_cons_zero, List.set_cons_succ, i64_w, i32_w]
        rfl
      refine pure_ (i := 1) (N := some 12) (v := ?_) (a' := ?_) #[true, true, false, false, false, false, false, false, false, false, false] rfl rfl (by kernel_rfl) (fun _ _ _ h => h) (Or.inl ⟨by rfl, ?_⟩) ?_ ?_
      rotate_left
      · (intro w'; go_simp; with_reducible rfl)
      rotate_left
      · simp only [Act.put, List.setIfInBounds_toArray, List.set_cons_zero, List.set_cons_succ, i64_w, i32_w]
        rfl
      refine pure_ (i := 2) (N := some 13) (v := ?_) (a' := ?_) #[true, true, true, false, false, false, false, false, false, false, false] rfl rfl (by kernel_rfl) (fun _ _ _ h => h) (Or.inl ⟨by rfl, ?_⟩) ?_ ?_
      rotate_left
      · (intro w'; go_simp; with_reducible rfl)
      rotate_left
      · simp only [Act.put, List.setIfInBounds_toArray, List.set_cons_zero, List.set_cons_succ, i64_w, i32_w]
        rfl
      refine pure_ (i := 3) (N := some 14) (v := ?_) (a' := ?_) #[true, true, true, true, false, false, false, false, false, false, false] rfl rfl (by kernel_rfl) (fun _ _ _ h => h) (Or.inl ⟨by rfl, ?_⟩) ?_ ?_
      rotate_left
      · (intro w'; go_simp; with_reducible rfl)
      rotate_left
      · simp only [Act.put, List.setIfInBounds_toArray, List.set_cons_zero, List.set_cons_succ, i64_w, i32_w]
        rfl
      refine take_ (i := 4) (N := some 15) (v := ?_) (a' := ?_) #[true, true, true, true, true, false, false, false, false, false, false] rfl rfl (by kernel_rfl) (fun _ _ _ h => h) (Or.inl ⟨by rfl, ?_⟩) hHeld ?_ ?_
      rotate_left
      · rintro w' hS
        have q0 := blk_cell hS 0
        go_simp
        with_reducible rfl
      rotate_left
      · simp only [Act.put, List.setIfInBounds_toArray, List.set_cons_zero, List.set_cons_succ, i64_w, i32_w]
        rfl
      refine one_ (i := 5) (N := some 16) #[true, true, true, true, true, true, false, false, false, false, false] rfl rfl (by kernel_rfl) (by decide) (fun K hK => ?_)
      refine call_ 52 #[] (by rfl) rfl (by go_simp; (try with_reducible rfl)) ?_
      refine (zeros_n wr.drew).mono ?_
      rintro e1 W1 ⟨rfl, hb1⟩
      refine ⟨_, rfl, hK.out _ _ ((hb1.block _ (blk_lt HK.out.1.h)).trans HK.out.1.h) (fun hHe1 => ?_)⟩
      clear hK K
      refine norm_ (a' := ?_) ?_ ?_
      rotate_left
      · show Act.put _ (some 16) _ = _
        simp only [Act.put, List.setIfInBounds_toArray, List.set_cons_zero, List.set_cons_succ, i64_w, i32_w]
        rfl
      have hb1' := below_step (below_drew1 (Below.refl wr.heap.size wr)) hb1
      have H1 := Lib.hid (And.intro (HK.out.1.below hb1') (below_step HK.out.2 hb1'))
      clear hb1 hb1' hHeld HK
      refine one_ (i := 6) (N := some 17) #[true, true, true, true, true, true, true, false, false, false, false] rfl rfl (by kernel_rfl) (by decide) (fun K hK => ?_)
      refine event_step (v := .slice (some ⟨W1.heap.size, 0, none⟩) 1 1) (w1 := W1.alloc (.cells #[.string zeros] 9)) (by rfl) (by go_simp; (try with_reducible rfl)) ?_
      refine hK.out _ _ (((below_alloc (Below.refl W1.heap.size W1) _).block _ (blk_lt H1.out.1.h)).trans H1.out.1.h) (fun hHe2 => ?_)
      clear hK K
      refine norm_ (a' := ?_) ?_ ?_
      rotate_left
      · show Act.put _ (some 17) _ = _
        simp only [Act.put, List.setIfInBounds_toArray, List.set_cons_zero, List.set_cons_succ, i64_w, i32_w]
        rfl
      have hx2 := heap_alloc_new W1 (.cells #[.string zeros] 9)
      have hb2 := below_alloc (Below.refl W1.heap.size W1) (.cells #[.string zeros] 9)
      have H2 := Lib.hid (And.intro (H1.out.1.below hb2) (And.intro (below_step H1.out.2 hb2) hx2))
      clear hx2 hb2 hHe1
      generalize W1.alloc (.cells #[.string zeros] 9) = W2 at *
      obtain ⟨v3, W3, hap3, hown3, hg3, hat3⟩ := app_s W2 w.heap.size v (List.replicate k zeros) W1.heap.size zeros H2.out.1.r H2.out.2.2 hk6 H2.out.2.1.size
      obtain ⟨A3, c3, rfl⟩ := own_slice hown3
      generalize hn1 : (List.replicate k zeros ++ [zeros]).length = n1 at hap3 hown3 hat3
      have hh3 : W3.heap[w.heap.size]? = some (.cells #[v] 100 (0, 0)) := (hg3.block _ (blk_lt H2.out.1.h) (fun e => H2.out.1.n e.symm)).trans H2.out.1.h
      refine one_ (i := 7) (N := some 18) #[true, true, true, true, true, true, true, true, false, false, false] rfl rfl (by kernel_rfl) (by decide) (fun K hK => ?_)
      refine event_step (v := .slice A3 n1 c3) (w1 := W3) (by rfl) (append_event2 rfl rfl rfl hap3) ?_
      refine hK.out _ _ (hh3) (fun hHe3 => ?_)
      clear hK K
      refine norm_ (a' := ?_) ?_ ?_
      rotate_left
      · show Act.put _ (some 18) _ = _
        simp only [Act.put, List.setIfInBounds_toArray, List.set_cons_zero, List.set_cons_succ, i64_w, i32_w]
        rfl
      refine pure_ (i := 8) (N := some 19) (v := ?_) (a' := ?_) #[true, true, true, true, true, true, true, true, true, false, false] rfl rfl (by kernel_rfl) (fun _ _ _ h => h) (Or.inl ⟨by rfl, ?_⟩) ?_ ?_
      rotate_left
      · (intro w'; go_simp; with_reducible rfl)
      rotate_left
      · simp only [Act.put, List.setIfInBounds_toArray, List.set_cons_zero, List.set_cons_succ, i64_w, i32_w]
        rfl
      refine pure_ (i := 9) (N := some 20) (v := ?_) (a' := ?_) #[true, true, true, true, true, true, true, true, true, true, false] rfl rfl (by kernel_rfl) (fun _ _ _ h => h) (Or.inl ⟨by rfl, ?_⟩) ?_ ?_
      rotate_left
      · (intro w'; go_simp; with_reducible rfl)
      rotate_left
      · simp only [Act.put, List.setIfInBounds_toArray, List.set_cons_zero, List.set_cons_succ, i64_w, i32_w]
        rfl
      have hc3 : W3.cell? ⟨w.heap.size, 0, none⟩ = some v := blk_cell hh3 0
      have hf3 := blk_frozen hh3 0
      have hn3 : (Value.slice A3 n1 c3).ownBlock ≠ some w.heap.size := by
        rcases hat3 with h | h
        · rw [h]; exact H2.out.1.n
        · rw [h]; intro e; have e2 := Option.some.inj e; have := blk_lt H2.out.1.h; omega
      have hgl : w.heap.size ≤ w.heap.size := Nat.le_refl _
      have hB3 : Below w.heap.size w W3 := ⟨hg3.os.trans H2.out.2.1.os, hg3.tape.trans H2.out.2.1.tape, hg3.output.trans H2.out.2.1.output, Nat.le_trans H2.out.2.1.size hg3.size, fun j hj => (hg3.block j (Nat.lt_of_lt_of_le hj H2.out.2.1.size) (fun e => by have := own_base H2.out.1.r j e.symm; omega)).trans (H2.out.2.1.block j hj)⟩
      have H4 := Lib.hid (And.intro (FI.mk (g := w.heap.size) (v := .slice A3 n1 c3) (L := List.replicate (k + 1) zeros) (base := w.heap.size) (w := W3.setCell ⟨w.heap.size, 0, none⟩ (.slice A3 n1 c3)) (blk_put hh3 0 _ rfl) (by rw [List.replicate_succ', hn1]; exact own_blk hown3 fun j hj => Below.heap_setCell _ _ _ _ (fun e => hn3 (by rw [hj, e]))) hn3 (Nat.le_refl _)) (show Below w.heap.size w (W3.setCell ⟨w.heap.size, 0, none⟩ (.slice A3 n1 c3)) from hB3.setCell (Nat.le_refl _) _))
      clear hat3 hap3 hown3 hg3 hHe3 hHe2 H1 H2 hn3 hB3
      refine last_ (i := 10) (N := none) #[true, true, true, true, true, true, true, true, true, true, true] rfl rfl (by kernel_rfl) (by decide) (fun K hK => ?_)
      refine skip_ (w1 := ?_) (by rfl) rfl ?_ ?_
      rotate_left
      · go_simp
        rfl
      refine hK.out _ _ ?_
      clear hK K
      refine done_ (by kernel_rfl) ?_
      clear hc3 hf3 hh3
      generalize W3.setCell ⟨w.heap.size, 0, none⟩ (.slice A3 n1 c3) = W4 at *
      have sk : wrap64 ((k : Int) + 1) = (k : Int) + 1 := wrap64_in _ ⟨by omega, by simp at hk6; omega⟩
      go_wp2_with fail
      go_roundw
      case rel => exact ⟨k + 1, .slice A3 n1 c3, by clear sk; omega, by first | rfl | (rw [sk]; rfl), H4.out.1, H4.out.2⟩
      case measure =>
        (try rw [sk])
        clear sk
        simp [intOf]
        omega
    · have hkn : k = n := by omega
      subst hkn
      go_wp2_with fail
      go_ret
      exact ⟨_, rfl, ⟨v, HK.out.1⟩, HK.out.2⟩
end Go.Proofs.Ythldophikcgkcab.Y
