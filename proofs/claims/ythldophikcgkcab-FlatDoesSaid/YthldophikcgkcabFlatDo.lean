/- flat.Flat: Do. -/
import Derived.Test.YthldophikcgkcabFlat
import Derived.Laws.Rows
namespace Go.Proofs.Ythldophikcgkcab.Y
set_option linter.unusedVariables false
set_option linter.unusedSimpArgs false
open Go.RowKit Go.Proofs Go.IntWalk Go.Proofs.YthldophikcgkcabW.PrintWords Go.Proofs.YthldophikcgkcabW.PrintLast Go.Proofs.YthldophikcgkcabW.PrintMore Go.Proofs.Ythldophikcgkcab.X Go.Proofs.Ythldophikcgkcab.PFlat

theorem blk_sets {g : Nat} {t : TypeId} : ∀ (l : List Value) (i : Nat) (cur : Array Value) (w : World), w.heap[g]? = some (.cells cur t (0, 0)) → i + l.length = cur.size → (sets w g i l).heap[g]? = some (.cells (cur.toList.take i ++ l).toArray t (0, 0))
  | [], i, cur, w, h, hl => by
    show w.heap[g]? = _
    rw [h, List.append_nil, List.take_of_length_le (by simp at hl ⊢; omega)]
  | v :: l, i, cur, w, h, hl => by
    show (sets (w.setCell ⟨g, i, none⟩ v) g (i + 1) l).heap[g]? = _
    rw [List.length_cons] at hl
    have hi : i < cur.size := by omega
    rw [blk_sets l (i + 1) (cur.setIfInBounds i v) (w.setCell ⟨g, i, none⟩ v) (blk_set h i v) (by rw [Array.size_setIfInBounds]; omega)]
    congr 3
    rw [Array.toList_setIfInBounds, List.take_set, List.take_succ_eq_append_getElem (by simpa using hi), List.set_append_right _ _ (by simp; omega)]
    have hm : i - min i cur.toList.length = 0 := by rw [Array.length_toList]; omega
    rw [List.length_take, hm]
    simp
theorem below_sets {B g : Nat} {w : World} (hB : B ≤ g) : ∀ (l : List Value) (i : Nat) (W : World), Below B w W → Below B w (sets W g i l)
  | [], i, W, h => h
  | v :: l, i, W, h => below_sets hB l (i + 1) _ (h.setCell hB v)
theorem run_loadVar_at {P : Program} (w : World) (a : Addr) (ty : TypeId) (l : List Value) (d : TypeDesc) (hc : ∀ j v, l[j]? = some v → w.cell? (a.add j) = some v)
    (hu : P.underlying ty = some d) (hd : (match d with | .struct _ | .array _ _ => true | _ => false) = true) (hi : (P.info? ty).map (·.size) = some l.length) :
    (loadVar ty a).run P w = .ok (.agg l.toArray) w := by
  have hl : (loadCells a l.length).run P w = .ok l.toArray w := run_loadCells_list (P := P) w a l hc
  cases hq : P.info? ty with
  | none => simp [hq] at hi
  | some i =>
    have hs : i.size = l.length := by simpa [hq] using hi
    have hagg : (isAgg ty).run P w = .ok true w := by
      cases d <;> simp_all [isAgg, underlying]
    simp [loadVar, hagg, Go.sizeOf, typeInfo, hq, hs, hl, Result.andThen]
theorem wpList_load_at {P : Program} {ops : Array Oper} {rest : List Oper} {o : Oper} {a : Act} {w : World} {Q : Exit → Act → World → Prop} (hgd : o.guard = none) (ty : TypeId) (x : Operand) (ho : o.op = .load ty x)
    (A : Addr) (hx : a.eval x = .pointer (some A)) (l : List Value) (hc : ∀ j v, l[j]? = some v → w.cell? (A.add j) = some v) (d : TypeDesc)
    (hu : P.underlying ty = some d) (hd : (match d with | .struct _ | .array _ _ => true | _ => false) = true) (hi : (P.info? ty).map (·.size) = some l.length)
    (h : wpList P ops Q rest (a.put o.dst (.agg l.toArray)) w) : wpList P ops Q (o :: rest) a w :=
  wpList_plain hgd fun _ hK => by
    have := run_loadVar_at w A ty l d hc hu hd hi
    unfold Oper.wp execOp
    simp only [ho, hx, Instr.loadAt, Instr.sureAddr, Sem.run_bind, Sem.run_pure, Result.andThen_ok, this]
    exact hK _ _ h
/-- A load of a whole block, and a store of one, as steps of a drawn region. -/
theorem load_blk {P : Program} {o : Oper} {a : Act} {x : Operand} {w : World} {g : Nat} (ty : TypeId) (cs : Array Value) (t : TypeId) (d : TypeDesc) (ho : o.op = .load ty x) (hx : a.eval x = .pointer (some ⟨g, 0, none⟩)) (hg : w.heap[g]? = some (.cells cs t (0, 0)))
    (hu : P.underlying ty = some d) (hd : (match d with | .struct _ | .array _ _ => true | _ => false) = true) (hi : (P.info? ty).map (·.size) = some cs.size) :
    (execOp a.eval o).run P w = .ok (.value (.agg cs)) w := by
  have := run_loadVar_row (P := P) w g t ty cs (0, 0) d hg hu hd hi
  unfold execOp
  simp only [ho, hx, Instr.loadAt, Instr.sureAddr, Sem.run_bind, Sem.run_pure, Result.andThen_ok, this]
theorem store_blk {P : Program} {o : Oper} {a : Act} {x y : Operand} {w : World} {g : Nat} (ty : TypeId) (cells old : Array Value) (t : TypeId) (ho : o.op = .store ty x y) (hx : a.eval x = .pointer (some ⟨g, 0, none⟩)) (hy : a.eval y = .agg cells) (hg : w.heap[g]? = some (.cells old t (0, 0)))
    (hi : (P.info? ty).map (·.size) = some cells.size) (hold : old.size = cells.size) (h1 : cells.all (·.oneCell') = true) :
    (execOp a.eval o).run P w = .ok .skip (sets w g 0 cells.toList) := by
  have h := run_storeCells_sets (P := P) g t cells.toList 0 old w hg (by simp; omega) (fun v hv => (Array.all_eq_true_iff_forall_mem.1 h1) v (by simpa using hv))
  cases hq : P.info? ty with
  | none => simp [hq] at hi
  | some i =>
    have hs : cells.size = i.size := by simp [hq] at hi; omega
    unfold execOp
    simp [ho, hx, hy, Instr.storeAt, Instr.sureAddr, storeVar, Value.cells, Go.sizeOf, typeInfo, hq, hs, h, Result.andThen]
/-- What becomes of blocks, part by part, and what is told. -/
def run : List ByteArray → ByteArray → List S106 → List ByteArray × ByteArray
  | L, r, [] => (L, r)
  | L, r, p :: ps => if p.f1 = true then run (L.set p.f0.toNat p.f2) r ps else run L (r ++ L.getD p.f0.toNat ⟨#[]⟩) ps
theorem parts_ok {w at' len n : Int} {d : ByteArray} (hn : 0 ≤ n) : (∀ p ∈ parts w at' len d n, 0 ≤ p.f0 ∧ p.f0 < n ∧ p.f2.size ≤ 32) ∧ (parts w at' len d n).length ≤ 4 := by
  unfold parts
  split
  case isFalse => exact ⟨fun p hp => absurd hp (by simp), by simp⟩
  case isTrue h =>
    obtain ⟨h1, h3⟩ := h
    have hs : Span at' (size w len d) (min n 64) := by
      unfold May at h1
      rcases h1 with h1 | h1
      · exact absurd h1 h3
      · exact h1.2
    generalize size w len d = z at *
    have h4 := span_4 hs
    unfold Span at hs
    refine ⟨fun p hp => ?_, by simp; omega⟩
    obtain ⟨i, hi, rfl⟩ := List.mem_map.1 hp
    rw [List.mem_range] at hi
    refine ⟨by show 0 ≤ at' / 32 + (i : Int); omega, by show at' / 32 + (i : Int) < n; omega, ?_⟩
    show (if w = 1 then d.extract (32 * i) (32 * i + 32) else if w = 2 then zeros else ⟨#[]⟩ : ByteArray).size ≤ 32
    split
    · rw [ByteArray.size_extract]; omega
    · split
      · exact Nat.le_refl _
      · exact Nat.zero_le _
/-- What Do holds ahead of its loop: the volume, its argument, its result's box. -/
structure DS (w wr : World) (g : Nat) (v : Value) (L : List ByteArray) (base : Nat) (ask : Array Value) : Prop where
  f : FI wr g v L base
  b : Below w.heap.size w wr
  a : wr.heap[w.heap.size]? = some (.cells ask 66 (0, 0))
  z : wr.heap[w.heap.size + 1]? = some (.cells #[.int .i64 0, .int .i64 0, .string ⟨#[]⟩] 73 (0, 0))
theorem DS.below {w wr w' : World} {g : Nat} {v : Value} {L : List ByteArray} {base : Nat} {ask : Array Value} (h : DS w wr g v L base ask) (hb : Below wr.heap.size wr w') : DS w w' g v L base ask :=
  ⟨h.f.below hb, below_step h.b hb, (hb.block _ (blk_lt h.a)).trans h.a, (hb.block _ (blk_lt h.z)).trans h.z⟩
/-- What Do holds in its loop. -/
structure DI (w W wr : World) (g : Nat) (v : Value) (L : List ByteArray) (base rb : Nat) (id er : Int) (r : ByteArray) (tv : Value) (ps : List S106) : Prop where
  f : FI wr g v L base
  q : wr.heap[rb]? = some (.cells #[.int .i64 id, .int .i64 er, .string r] 73 (0, 0))
  p : Kd.R k106 106 wr W.heap.size (fun k => W.heap.size ≤ k) tv ps
  s : w.grownBy wr v.ownBlock
  z : wr.heap[w.heap.size + 1]? = some (.cells #[.int .i64 0, .int .i64 0, .string ⟨#[]⟩] 73 (0, 0))
theorem DI.below {w W wr w' : World} {g : Nat} {v : Value} {L : List ByteArray} {base rb : Nat} {id er : Int} {r : ByteArray} {tv : Value} {ps : List S106} (h : DI w W wr g v L base rb id er r tv ps) (hb : Below wr.heap.size wr w') : DI w W w' g v L base rb id er r tv ps :=
  ⟨h.f.below hb, (hb.block _ (blk_lt h.q)).trans h.q, Kd.R_below h.p hb, ⟨hb.os.trans h.s.os, hb.tape.trans h.s.tape, hb.output.trans h.s.output, Nat.le_trans h.s.size hb.size, fun k hk hne => (hb.block k (Nat.lt_of_lt_of_le hk h.s.size)).trans (h.s.block k hk hne)⟩, (hb.block _ (blk_lt h.z)).trans h.z⟩
theorem DI.put {w W wr : World} {g gr n c : Nat} {L : List ByteArray} {base rb : Nat} {id er : Int} {r : ByteArray} {tv : Value} {ps : List S106} (h : DI w W wr g (.slice (some ⟨gr, 0, none⟩) n c) L base rb id er r tv ps) (hn : L.length = n) (hgr : gr < w.heap.size) (hrb : w.heap.size ≤ rb) (hW : w.heap.size ≤ W.heap.size) (b : Nat) (x : ByteArray) :
    DI w W (wr.setCell ⟨gr, b, none⟩ (.string x)) g (.slice (some ⟨gr, 0, none⟩) n c) (L.set b x) base rb id er r tv ps := by
  have hne : ∀ k, k ≠ gr → (wr.setCell ⟨gr, b, none⟩ (.string x)).heap[k]? = wr.heap[k]? := fun k hk => Below.heap_setCell _ _ _ _ hk
  have hg : g ≠ gr := fun e => h.f.n (by rw [e]; rfl)
  subst hn
  have hr := own_put_of (enc := Value.string) h.f.r (b : Int) x
  rw [Int.toNat_natCast] at hr
  refine ⟨⟨(hne g hg).trans h.f.h, ?_, h.f.n, h.f.b⟩, (hne rb (by omega)).trans h.q, Kd.R_far h.p (fun k hk => by show k ≠ gr; omega) _, ?_, (hne _ (by omega)).trans h.z⟩
  · rw [List.length_set] at hr ⊢
    exact hr
  · exact ⟨h.s.os, h.s.tape, h.s.output, by simpa [World.setCell] using h.s.size, fun k hk hkr => (hne k (fun e => hkr (by rw [e]; rfl))).trans (h.s.block k hk hkr)⟩
theorem DI.tell {w W wr : World} {g : Nat} {v : Value} {L : List ByteArray} {base rb : Nat} {id er : Int} {r : ByteArray} {tv : Value} {ps : List S106} (h : DI w W wr g v L base rb id er r tv ps) (hg : g < w.heap.size) (hv : ∀ k, v.ownBlock = some k → k < w.heap.size) (hrb : w.heap.size + 2 ≤ rb) (hW : rb < W.heap.size) (x : ByteArray) :
    DI w W (wr.setCell ⟨rb, 2, none⟩ (.string x)) g v L base rb id er x tv ps := by
  have hne : ∀ k, k ≠ rb → (wr.setCell ⟨rb, 2, none⟩ (.string x)).heap[k]? = wr.heap[k]? := fun k hk => Below.heap_setCell _ _ _ _ hk
  refine ⟨⟨(hne g (by omega)).trans h.f.h, own_blk h.f.r fun k hk => hne k (by have := hv k hk; omega), h.f.n, h.f.b⟩, blk_put h.q 2 _ rfl, Kd.R_far h.p (fun k hk => by show k ≠ rb; omega) _, ?_, (hne _ (by omega)).trans h.z⟩
  exact ⟨h.s.os, h.s.tape, h.s.output, by simpa [World.setCell] using h.s.size, fun k hk hkr => (hne k (by omega)).trans (h.s.block k hk hkr)⟩
theorem own_some {W : World} {B : Nat} {e : TypeId} {s n m c : Nat} {A : Option Addr} {xs : List Value} (h : W.ownsRow B e s (.slice A n c) m xs) (hm : 0 < m) : ∃ gr, A = some ⟨gr, 0, none⟩ ∧ m ≤ c := by
  rcases h.2 with ⟨_, h0⟩ | ⟨g, cap, cur, hv, _, _, hnc, _⟩
  · omega
  · injection hv with h1 h2 h3
    exact ⟨g, h1, by omega⟩
set_option maxHeartbeats 8000000 in
set_option maxRecDepth 100000 in
theorem do_n (w : World) (g : Nat) (v : Value) (L : List ByteArray) (base : Nat) (id a0 a1 a2 : Int) (a3 : ByteArray) (a4 : Bool) (H : FI w g v L base) (hL : L.length ≤ 64) (h32 : ∀ x ∈ L, x.size ≤ 32) (h1 : In a1) (h2 : In a2) (h3 : a3.size ≤ 9223372036854775807) :
    Calls Try.prog 30 #[.pointer (some ⟨g, 0, none⟩), .int .i64 id, .agg #[.int .i64 a0, .int .i64 a1, .int .i64 a2, .string a3, .bool a4]] w fun e w' => e = .returned (.agg #[.int .i64 id, .int .i64 (if May a0 a1 a2 a3 (L.length : Int) then 0 else 1), .string (run L ⟨#[]⟩ (parts a0 a1 a2 a3 (L.length : Int))).2]) ∧ FI w' g v (run L ⟨#[]⟩ (parts a0 a1 a2 a3 (L.length : Int))).1 base ∧ w.grownBy w' v.ownBlock := by
  have hmay := may_f (w := a0) (at' := a1) (len := a2) (n := (L.length : Int)) (d := a3) (s := a4) h1 h2 (by omega) h3 20
  have hparts := parts_f (w := a0) (at' := a1) (len := a2) (n := (L.length : Int)) (d := a3) (s := a4) h1 h2 (by omega) h3 20 (by omega)
  have hok := parts_ok (w := a0) (at' := a1) (len := a2) (n := (L.length : Int)) (d := a3) (by omega)
  generalize parts a0 a1 a2 a3 (L.length : Int) = ps at *
  generalize (if May a0 a1 a2 a3 (L.length : Int) then (0 : Int) else 1) = er at *
  obtain ⟨A, c, rfl⟩ := own_slice H.r
  have HM := Lib.hid (fun W : World => need_May.calls 20 a0 a1 a2 a3 a4 (L.length : Int) er W hmay)
  have HP := Lib.hid (fun W : World => need_Parts.calls 20 a0 a1 a2 a3 a4 (L.length : Int) ps W hparts)
  have HO := Lib.hid (And.intro hok (And.intro hL h32))
  have hb0 := below_alloc (below_alloc (Below.refl w.heap.size w) (.cells #[.int .i64 a0, .int .i64 a1, .int .i64 a2, .string a3, .bool a4] 66)) (.cells #[.int .i64 0, .int .i64 0, .string ⟨#[]⟩] 73)
  have hx5 := ((below_alloc (Below.refl _ (w.alloc (.cells #[.int .i64 a0, .int .i64 a1, .int .i64 a2, .string a3, .bool a4] 66))) (.cells #[.int .i64 0, .int .i64 0, .string ⟨#[]⟩] 73)).block w.heap.size (by simp)).trans (heap_alloc_new w (.cells #[.int .i64 a0, .int .i64 a1, .int .i64 a2, .string a3, .bool a4] 66))
  have hx6 : ((w.alloc (.cells #[.int .i64 a0, .int .i64 a1, .int .i64 a2, .string a3, .bool a4] 66)).alloc (.cells #[.int .i64 0, .int .i64 0, .string ⟨#[]⟩] 73)).heap[w.heap.size + 1]? = some (.cells #[.int .i64 0, .int .i64 0, .string ⟨#[]⟩] 73 (0, 0)) := by
    simpa using heap_alloc_new (w.alloc (.cells #[.int .i64 a0, .int .i64 a1, .int .i64 a2, .string a3, .bool a4] 66)) (.cells #[.int .i64 0, .int .i64 0, .string ⟨#[]⟩] 73)
  have HX := Lib.hid (DS.mk (H.below hb0) hb0 hx5 hx6)
  have HB := Lib.hid (And.intro (blk_lt H.h) (fun k hk => own_lt H.r (k := k) hk))
  clear hmay hparts hok hb0 hx5 hx6 hL h32 h1 h2 h3 H
  go_enter Try.func30, Try.ntmps30
  go_upto_region 3 with fail
  generalize (w.alloc (.cells #[.int .i64 a0, .int .i64 a1, .int .i64 a2, .string a3, .bool a4] 66)).alloc (.cells #[.int .i64 0, .int .i64 0, .string ⟨#[]⟩] 73) = W1 at *
  go_cut [7] (fun v7 wc => ∃ rb, v7 = .pointer (some ⟨rb, 0, none⟩) ∧ w.heap.size + 2 ≤ rb ∧ DS w wc g (.slice A L.length c) L base #[.int .i64 a0, .int .i64 a1, .int .i64 a2, .string a3, .bool a4] ∧ wc.heap[rb]? = some (.cells #[.int .i64 id, .int .i64 er, .string ⟨#[]⟩] 73 (0, 0)))
  case first =>
    refine start_ (n := 11) (S := (fun w' => DS w w' g (.slice A L.length c) L base #[.int .i64 a0, .int .i64 a1, .int .i64 a2, .string a3, .bool a4])) (ds := ([10] : List Nat)) #[false, false, false, false, false, false, false, false, false, false, false] (by kernel_rfl) rfl rfl (HX.out.below (below_drew1 (Below.refl _ _))) (fun hHeld => ?_)
    refine pure_ (i := 0) (N := some 14) (v := ?_) (a' := ?_) #[true, false, false, false, false, false, false, false, false, false, false] rfl rfl (by kernel_rfl) (fun _ _ _ h => h) (Or.inl ⟨by rfl, ?_⟩) ?_ ?_
    rotate_left
    · (intro w'; go_simp; with_reducible rfl)
    rotate_left
    · simp only [Act.put, List.setIfInBounds_toArray, List.set_cons_zero, List.set_cons_succ, i64_w, i32_w]
      rfl
    refine take_ (i := 1) (N := some 15) (v := (.agg #[.int .i64 a0, .int .i64 a1, .int .i64 a2, .string a3, .bool a4])) (a' := ?_) #[true, true, false, false, false, false, false, false, false, false, false] rfl rfl (by kernel_rfl) (fun _ _ _ h => h) (Or.inl ⟨by rfl, ?_⟩) hHeld ?_ ?_
    · rintro w' hS
      apply load_blk (t := 66) (hu := Try.underlying66)
      case ho => rfl
      case hx => rfl
      case hg => exact hS.a
      case hd => rfl
      case hi => kernel_rfl
    rotate_left
    · simp only [Act.put, List.setIfInBounds_toArray, List.set_cons_zero, List.set_cons_succ, i64_w, i32_w]
      rfl
    refine pure_ (i := 2) (N := some 16) (v := ?_) (a' := ?_) #[true, true, true, false, false, false, false, false, false, false, false] rfl rfl (by kernel_rfl) (fun _ _ _ h => h) (Or.inl ⟨by rfl, ?_⟩) ?_ ?_
    rotate_left
    · (intro w'; go_simp; with_reducible rfl)
    rotate_left
    · simp only [Act.put, List.setIfInBounds_toArray, List.set_cons_zero, List.set_cons_succ, i64_w, i32_w]
      rfl
    refine pure_ (i := 3) (N := some 17) (v := ?_) (a' := ?_) #[true, true, true, true, false, false, false, false, false, false, false] rfl rfl (by kernel_rfl) (fun _ _ _ h => h) (Or.inl ⟨by rfl, ?_⟩) ?_ ?_
    rotate_left
    · (intro w'; go_simp; with_reducible rfl)
    rotate_left
    · simp only [Act.put, List.setIfInBounds_toArray, List.set_cons_zero, List.set_cons_succ, i64_w, i32_w]
      rfl
    refine pure_ (i := 4) (N := some 18) (v := ?_) (a' := ?_) #[true, true, true, true, true, false, false, false, false, false, false] rfl rfl (by kernel_rfl) (fun _ _ _ h => h) (Or.inl ⟨by rfl, ?_⟩) ?_ ?_
    rotate_left
    · (intro w'; go_simp; with_reducible rfl)
    rotate_left
    · simp only [Act.put, List.setIfInBounds_toArray, List.set_cons_zero, List.set_cons_succ, i64_w, i32_w]
      rfl
    refine take_ (i := 5) (N := some 19) (v := ?_) (a' := ?_) #[true, true, true, true, true, true, false, false, false, false, false] rfl rfl (by kernel_rfl) (fun _ _ _ h => h) (Or.inl ⟨by rfl, ?_⟩) hHeld ?_ ?_
    rotate_left
    · rintro w' hS
      have q0 := blk_cell hS.f.h 0
      go_simp
      with_reducible rfl
    rotate_left
    · simp only [Act.put, List.setIfInBounds_toArray, List.set_cons_zero, List.set_cons_succ, i64_w, i32_w]
      rfl
    refine pure_ (i := 6) (N := some 20) (v := ?_) (a' := ?_) #[true, true, true, true, true, true, true, false, false, false, false] rfl rfl (by kernel_rfl) (fun _ _ _ h => h) (Or.inl ⟨by rfl, ?_⟩) ?_ ?_
    rotate_left
    · (intro w'; go_simp; with_reducible rfl)
    rotate_left
    · simp only [Act.put, List.setIfInBounds_toArray, List.set_cons_zero, List.set_cons_succ, i64_w, i32_w]
      rfl
    refine two_ (i := 7) (j := 9) (Ni := some 21) (Nj := some 7) #[true, true, true, true, true, true, true, true, false, false, false] #[true, true, true, true, true, true, true, false, false, true, false] rfl rfl rfl rfl (by kernel_rfl) (by decide) (by decide) (fun K hK => ?_) (fun K hK => ?_)
    · skip
      refine call_ 54 #[.agg #[.int .i64 a0, .int .i64 a1, .int .i64 a2, .string a3, .bool a4], .int .i64 (L.length : Int)] (by rfl) rfl (by go_simp; (try with_reducible rfl)) ?_
      refine (HM.out W1.drew).mono ?_
      rintro e1 W2 ⟨rfl, hbW2⟩
      refine ⟨_, rfl, hK.out _ _ (hHeld.below hbW2) (fun hHe2 => ?_)⟩
      clear hK K
      refine norm_ (a' := ?_) ?_ ?_
      rotate_left
      · show Act.put _ (some 21) _ = _
        simp only [Act.put, List.setIfInBounds_toArray, List.set_cons_zero, List.set_cons_succ, i64_w, i32_w]
        rfl
      refine pure_ (i := 8) (N := some 22) (v := ?_) (a' := ?_) #[true, true, true, true, true, true, true, true, true, false, false] rfl rfl (by kernel_rfl) (fun _ _ _ h => h) (Or.inl ⟨by rfl, ?_⟩) ?_ ?_
      rotate_left
      · (intro w'; go_simp; with_reducible rfl)
      rotate_left
      · simp only [Act.put, List.setIfInBounds_toArray, List.set_cons_zero, List.set_cons_succ, i64_w, i32_w]
        rfl
      refine one_ (i := 9) (N := some 7) #[true, true, true, true, true, true, true, true, true, true, false] rfl rfl (by kernel_rfl) (by decide) (fun K hK => ?_)
      refine event_step (v := .pointer (some ⟨W2.heap.size, 0, none⟩)) (w1 := W2.alloc (.cells #[.int .i64 0, .int .i64 0, .string ⟨#[]⟩] 73)) (by rfl) (by go_simp; (try with_reducible rfl)) ?_
      refine hK.out _ _ (hHe2.below (below_alloc (Below.refl _ _) _)) (fun hHe3 => ?_)
      clear hK K
      refine norm_ (a' := ?_) ?_ ?_
      rotate_left
      · show Act.put _ (some 7) _ = _
        simp only [Act.put, List.setIfInBounds_toArray, List.set_cons_zero, List.set_cons_succ, i64_w, i32_w]
        rfl
      have hqW3 := heap_alloc_new W2 (.cells #[.int .i64 0, .int .i64 0, .string ⟨#[]⟩] 73)
      have hrW3 : w.heap.size + 2 ≤ W2.heap.size := Nat.succ_le_of_lt (blk_lt hHe2.z)
      generalize hg9 : W2.heap.size = rb at *
      generalize W2.alloc (.cells #[.int .i64 0, .int .i64 0, .string ⟨#[]⟩] 73) = W3 at *
      have hqW := hqW3
      have hrW := hrW3
      have hrg : g ≠ rb := by have := HB.out.1; omega
      have hrl : 0 + [Value.int .i64 id, .int .i64 er, .string ⟨#[]⟩].length = (#[Value.int .i64 0, .int .i64 0, .string ⟨#[]⟩] : Array Value).size := rfl
      have hrw : w.heap.size ≤ rb := by omega
      have hF3 : FI (sets W3 rb 0 [.int .i64 id, .int .i64 er, .string ⟨#[]⟩]) g (.slice A L.length c) L base := by
        have hB3 := below_sets (Nat.le_refl _) [.int .i64 id, .int .i64 er, .string ⟨#[]⟩] 0 _ (Below.refl rb W3)
        exact ⟨(hB3.block g (by have := HB.out.1; omega)).trans hHe3.f.h, own_blk hHe3.f.r fun k hk => hB3.block k (by have := HB.out.2 k hk; omega), hHe3.f.n, hHe3.f.b⟩
      have hS3 := blk_sets [.int .i64 id, .int .i64 er, .string ⟨#[]⟩] 0 _ _ hqW hrl
      have hB3 := below_sets (Nat.le_refl _) [.int .i64 id, .int .i64 er, .string ⟨#[]⟩] 0 _ (Below.refl rb W3)
      have H3 := Lib.hid (show DS w (sets W3 rb 0 [.int .i64 id, .int .i64 er, .string ⟨#[]⟩]) g (.slice A L.length c) L base #[.int .i64 a0, .int .i64 a1, .int .i64 a2, .string a3, .bool a4] from ⟨hF3, below_sets hrw _ _ _ hHe3.b, (hB3.block _ (by omega)).trans hHe3.a, (hB3.block _ (by omega)).trans hHe3.z⟩)
      refine last_ (i := 10) (N := none) #[true, true, true, true, true, true, true, true, true, true, true] rfl rfl (by kernel_rfl) (by decide) (fun K hK => ?_)
      refine skip_ (w1 := sets W3 rb 0 [.int .i64 id, .int .i64 er, .string ⟨#[]⟩]) (by rfl) rfl ?_ ?_
      · exact store_blk 73 #[.int .i64 id, .int .i64 er, .string ⟨#[]⟩] _ 73 rfl rfl rfl hqW (by kernel_rfl) (by kernel_rfl) (by kernel_rfl)
      refine hK.out _ _ ?_
      clear hK K
      refine done_ (by kernel_rfl) ?_
      go_wp2_with fail
      go_meet
      case rel => exact ⟨rb, rfl, hrW, H3.out, hS3⟩
    · skip
      refine event_step (v := .pointer (some ⟨W1.drew.heap.size, 0, none⟩)) (w1 := W1.drew.alloc (.cells #[.int .i64 0, .int .i64 0, .string ⟨#[]⟩] 73)) (by rfl) (by go_simp; (try with_reducible rfl)) ?_
      refine hK.out _ _ (hHeld.below (below_alloc (Below.refl _ _) _)) (fun hHe2 => ?_)
      clear hK K
      refine norm_ (a' := ?_) ?_ ?_
      rotate_left
      · show Act.put _ (some 7) _ = _
        simp only [Act.put, List.setIfInBounds_toArray, List.set_cons_zero, List.set_cons_succ, i64_w, i32_w]
        rfl
      have hqW2 := heap_alloc_new W1.drew (.cells #[.int .i64 0, .int .i64 0, .string ⟨#[]⟩] 73)
      have hrW2 : w.heap.size + 2 ≤ W1.drew.heap.size := Nat.succ_le_of_lt (blk_lt hHeld.z)
      generalize hg9 : W1.drew.heap.size = rb at *
      generalize W1.drew.alloc (.cells #[.int .i64 0, .int .i64 0, .string ⟨#[]⟩] 73) = W2 at *
      refine one_ (i := 7) (N := some 21) #[true, true, true, true, true, true, true, true, false, true, false] rfl rfl (by kernel_rfl) (by decide) (fun K hK => ?_)
      refine call_ 54 #[.agg #[.int .i64 a0, .int .i64 a1, .int .i64 a2, .string a3, .bool a4], .int .i64 (L.length : Int)] (by rfl) rfl (by go_simp; (try with_reducible rfl)) ?_
      refine (HM.out W2).mono ?_
      rintro e1 W3 ⟨rfl, hbW3⟩
      refine ⟨_, rfl, hK.out _ _ (hHe2.below hbW3) (fun hHe3 => ?_)⟩
      clear hK K
      refine norm_ (a' := ?_) ?_ ?_
      rotate_left
      · show Act.put _ (some 21) _ = _
        simp only [Act.put, List.setIfInBounds_toArray, List.set_cons_zero, List.set_cons_succ, i64_w, i32_w]
        rfl
      refine pure_ (i := 8) (N := some 22) (v := ?_) (a' := ?_) #[true, true, true, true, true, true, true, true, true, true, false] rfl rfl (by kernel_rfl) (fun _ _ _ h => h) (Or.inl ⟨by rfl, ?_⟩) ?_ ?_
      rotate_left
      · (intro w'; go_simp; with_reducible rfl)
      rotate_left
      · simp only [Act.put, List.setIfInBounds_toArray, List.set_cons_zero, List.set_cons_succ, i64_w, i32_w]
        rfl
      have hqW := (hbW3.block rb (blk_lt hqW2)).trans hqW2
      have hrW := hrW2
      have hrg : g ≠ rb := by have := HB.out.1; omega
      have hrl : 0 + [Value.int .i64 id, .int .i64 er, .string ⟨#[]⟩].length = (#[Value.int .i64 0, .int .i64 0, .string ⟨#[]⟩] : Array Value).size := rfl
      have hrw : w.heap.size ≤ rb := by omega
      have hF3 : FI (sets W3 rb 0 [.int .i64 id, .int .i64 er, .string ⟨#[]⟩]) g (.slice A L.length c) L base := by
        have hB3 := below_sets (Nat.le_refl _) [.int .i64 id, .int .i64 er, .string ⟨#[]⟩] 0 _ (Below.refl rb W3)
        exact ⟨(hB3.block g (by have := HB.out.1; omega)).trans hHe3.f.h, own_blk hHe3.f.r fun k hk => hB3.block k (by have := HB.out.2 k hk; omega), hHe3.f.n, hHe3.f.b⟩
      have hS3 := blk_sets [.int .i64 id, .int .i64 er, .string ⟨#[]⟩] 0 _ _ hqW hrl
      have hB3 := below_sets (Nat.le_refl _) [.int .i64 id, .int .i64 er, .string ⟨#[]⟩] 0 _ (Below.refl rb W3)
      have H3 := Lib.hid (show DS w (sets W3 rb 0 [.int .i64 id, .int .i64 er, .string ⟨#[]⟩]) g (.slice A L.length c) L base #[.int .i64 a0, .int .i64 a1, .int .i64 a2, .string a3, .bool a4] from ⟨hF3, below_sets hrw _ _ _ hHe3.b, (hB3.block _ (by omega)).trans hHe3.a, (hB3.block _ (by omega)).trans hHe3.z⟩)
      refine last_ (i := 10) (N := none) #[true, true, true, true, true, true, true, true, true, true, true] rfl rfl (by kernel_rfl) (by decide) (fun K hK => ?_)
      refine skip_ (w1 := sets W3 rb 0 [.int .i64 id, .int .i64 er, .string ⟨#[]⟩]) (by rfl) rfl ?_ ?_
      · exact store_blk 73 #[.int .i64 id, .int .i64 er, .string ⟨#[]⟩] _ 73 rfl rfl rfl hqW (by kernel_rfl) (by kernel_rfl) (by kernel_rfl)
      refine hK.out _ _ ?_
      clear hK K
      refine done_ (by kernel_rfl) ?_
      go_wp2_with fail
      go_meet
      case rel => exact ⟨rb, rfl, hrW, H3.out, hS3⟩
  case rest =>
    obtain ⟨rb, rfl, hrb, hD, hq⟩ := hcut
    have HD := Lib.hid (And.intro hD hq)
    clear hD hq HX HM
    go_upto_region 4 with fail
    refine start_ (n := 9) (S := (fun w' => DS w w' g (.slice A L.length c) L base #[.int .i64 a0, .int .i64 a1, .int .i64 a2, .string a3, .bool a4])) (ds := ([] : List Nat)) #[false, false, false, false, false, false, false, false, false] (by kernel_rfl) rfl rfl (HD.out.1.below (below_drew1 (Below.refl _ _))) (fun hHeld => ?_)
    refine pure_ (i := 1) (N := some 24) (v := ?_) (a' := ?_) #[false, true, false, false, false, false, false, false, false] rfl rfl (by kernel_rfl) (fun _ _ _ h => h) (Or.inl ⟨by rfl, ?_⟩) ?_ ?_
    rotate_left
    · (intro w'; go_simp; with_reducible rfl)
    rotate_left
    · simp only [Act.put, List.setIfInBounds_toArray, List.set_cons_zero, List.set_cons_succ, i64_w, i32_w]
      rfl
    refine pure_ (i := 2) (N := some 25) (v := ?_) (a' := ?_) #[false, true, true, false, false, false, false, false, false] rfl rfl (by kernel_rfl) (fun _ _ _ h => h) (Or.inl ⟨by rfl, ?_⟩) ?_ ?_
    rotate_left
    · (intro w'; go_simp; with_reducible rfl)
    rotate_left
    · simp only [Act.put, List.setIfInBounds_toArray, List.set_cons_zero, List.set_cons_succ, i64_w, i32_w]
      rfl
    refine pure_ (i := 3) (N := some 26) (v := ?_) (a' := ?_) #[false, true, true, true, false, false, false, false, false] rfl rfl (by kernel_rfl) (fun _ _ _ h => h) (Or.inl ⟨by rfl, ?_⟩) ?_ ?_
    rotate_left
    · (intro w'; go_simp; with_reducible rfl)
    rotate_left
    · simp only [Act.put, List.setIfInBounds_toArray, List.set_cons_zero, List.set_cons_succ, i64_w, i32_w]
      rfl
    refine pure_ (i := 8) (N := some 31) (v := ?_) (a' := ?_) #[false, true, true, true, false, false, false, false, true] rfl rfl (by kernel_rfl) (fun _ _ _ h => h) (Or.inl ⟨by rfl, ?_⟩) ?_ ?_
    rotate_left
    · (intro w'; go_simp; with_reducible rfl)
    rotate_left
    · simp only [Act.put, List.setIfInBounds_toArray, List.set_cons_zero, List.set_cons_succ, i64_w, i32_w]
      rfl
    refine take_ (i := 0) (N := some 23) (v := (.agg #[.int .i64 a0, .int .i64 a1, .int .i64 a2, .string a3, .bool a4])) (a' := ?_) #[true, true, true, true, false, false, false, false, true] rfl rfl (by kernel_rfl) (fun _ _ _ h => h) (Or.inl ⟨by rfl, ?_⟩) hHeld ?_ ?_
    · rintro w' hS
      apply load_blk (t := 66) (hu := Try.underlying66)
      case ho => rfl
      case hx => rfl
      case hg => exact hS.a
      case hd => rfl
      case hi => kernel_rfl
    rotate_left
    · simp only [Act.put, List.setIfInBounds_toArray, List.set_cons_zero, List.set_cons_succ, i64_w, i32_w]
      rfl
    refine take_ (i := 4) (N := some 27) (v := ?_) (a' := ?_) #[true, true, true, true, true, false, false, false, true] rfl rfl (by kernel_rfl) (fun _ _ _ h => h) (Or.inl ⟨by rfl, ?_⟩) hHeld ?_ ?_
    rotate_left
    · rintro w' hS
      have q0 := blk_cell hS.f.h 0
      go_simp
      with_reducible rfl
    rotate_left
    · simp only [Act.put, List.setIfInBounds_toArray, List.set_cons_zero, List.set_cons_succ, i64_w, i32_w]
      rfl
    refine pure_ (i := 5) (N := some 28) (v := ?_) (a' := ?_) #[true, true, true, true, true, true, false, false, true] rfl rfl (by kernel_rfl) (fun _ _ _ h => h) (Or.inl ⟨by rfl, ?_⟩) ?_ ?_
    rotate_left
    · (intro w'; go_simp; with_reducible rfl)
    rotate_left
    · simp only [Act.put, List.setIfInBounds_toArray, List.set_cons_zero, List.set_cons_succ, i64_w, i32_w]
      rfl
    refine one_ (i := 6) (N := some 29) #[true, true, true, true, true, true, true, false, true] rfl rfl (by kernel_rfl) (by decide) (fun K hK => ?_)
    refine call_ 55 #[.agg #[.int .i64 a0, .int .i64 a1, .int .i64 a2, .string a3, .bool a4], .int .i64 (L.length : Int)] (by rfl) rfl (by go_simp; (try with_reducible rfl)) ?_
    refine (HP.out wc.drew).mono ?_
    rintro e1 W4 ⟨tv, rfl, hR, hb4⟩
    obtain ⟨Ap, cp, rfl⟩ := Kd.R_slice hR
    have hbb := below_step (below_drew1 (Below.refl wc.heap.size wc)) hb4
    have H4 := Lib.hid (And.intro (show DI w wc.drew W4 g (.slice A L.length c) L base rb id er ⟨#[]⟩ (.slice Ap ps.length cp) ps from ⟨HD.out.1.f.below hbb, (hbb.block _ (blk_lt HD.out.2)).trans HD.out.2, Kd.R_mono (Kd.R_bound hR) (fun k hk => hk.2.1), ⟨hbb.os.trans HD.out.1.b.os, hbb.tape.trans HD.out.1.b.tape, hbb.output.trans HD.out.1.b.output, Nat.le_trans HD.out.1.b.size hbb.size, fun k hk _ => (hbb.block k (Nat.lt_of_lt_of_le hk HD.out.1.b.size)).trans (HD.out.1.b.block k hk)⟩, (hbb.block _ (blk_lt HD.out.1.z)).trans HD.out.1.z⟩) (And.intro (show rb < wc.drew.heap.size from blk_lt HD.out.2) (show w.heap.size ≤ wc.drew.heap.size from HD.out.1.b.size)))
    refine ⟨_, rfl, hK.out _ _ (HD.out.1.below hbb) (fun hHe5 => ?_)⟩
    clear hK K hR hb4 hbb
    refine norm_ (a' := ?_) ?_ ?_
    rotate_left
    · show Act.put _ (some 29) _ = _
      simp only [Act.put, List.setIfInBounds_toArray, List.set_cons_zero, List.set_cons_succ, i64_w, i32_w]
      rfl
    refine pure_ (i := 7) (N := some 30) (v := ?_) (a' := ?_) #[true, true, true, true, true, true, true, true, true] rfl rfl (by kernel_rfl) (fun _ _ _ h => h) (Or.inl ⟨by rfl, ?_⟩) ?_ ?_
    rotate_left
    · (intro w'; go_simp; with_reducible rfl)
    rotate_left
    · simp only [Act.put, List.setIfInBounds_toArray, List.set_cons_zero, List.set_cons_succ, i64_w, i32_w]
      rfl
    refine done_ (by kernel_rfl) ?_
    clear hHe5 hHeld HD HP
    generalize hWp : wc.drew = Wp at *
    clear hWp
    go_wp2_with fail
    go_loopw [31] (fun v31 wr => ∃ (k : Nat) (L' : List ByteArray) (r : ByteArray), k ≤ ps.length ∧ v31 = .int .i64 (k : Int) ∧ DI w Wp wr g (.slice A L.length c) L' base rb id er r (.slice Ap ps.length cp) ps ∧ run L' r (ps.drop k) = run L ⟨#[]⟩ ps ∧ L'.length = L.length ∧ (∀ x ∈ L', x.size ≤ 32) ∧ r.size ≤ 32 * k) (fun v => fun _ => ps.length - (intOf v).toNat)
    case atStart => exact ⟨0, L, ⟨#[]⟩, by omega, rfl, H4.out.1, rfl, rfl, HO.out.2.2, Nat.zero_le _⟩
    case round =>
      obtain ⟨k, L', r, hk, rfl, hDI, hrun, hL', hs', hr'⟩ := hrel
      by_cases ck : (k : Int) < (ps.length : Int)
      · have hkl : k < ps.length := by omega
        have hk4 : k ≤ 4 := by have := HO.out.1.2; omega
        have hL64 := HO.out.2.1
        obtain ⟨ad, rfl, k0, k1, k2⟩ := at_T106 (Kd.R_reads' hDI.p).2.2 (k : Int) (by omega) ck
        obtain ⟨gp, rfl⟩ := Kd.R_head hDI.p
        rw [Int.toNat_natCast, add_any, Nat.zero_add] at k0 k1 k2
        have hpk : rd_T106 ps (k : Int) = ps[k] := by unfold rd_T106; simp [hkl]
        rw [hpk] at k0 k1 k2
        have hpm : ps[k] ∈ ps := List.getElem_mem hkl
        have hdr : ps.drop k = ps[k] :: ps.drop (k + 1) := List.drop_eq_getElem_cons hkl
        rw [hdr] at hrun
        clear hpk hdr
        generalize ps[k] = p at *
        obtain ⟨hp0, hp1, hp2⟩ := HO.out.1.1 p hpm
        have HC := Lib.hid (show ∀ j v, ([.int .i64 p.f0, .bool p.f1, .string p.f2] : List Value)[j]? = some v → wr.cell? ((⟨gp, k * 3, none⟩ : Addr).add j) = some v from fun j v hj => by
          rw [add_any]
          rcases j with _ | _ | _ | j
          · exact k0.trans hj
          · exact k1.trans hj
          · exact k2.trans hj
          · simp at hj)
        have HK := Lib.hid (And.intro hDI (And.intro hrun (And.intro hL' (And.intro hs' hr'))))
        have HN := Lib.hid (And.intro hp0 (And.intro hp1 (And.intro hp2 (And.intro hkl (And.intro hk4 hL64)))))
        clear hDI hrun hL' hs' hr' k0 k1 k2 hpm hp0 hp1 hp2 hk hkl hk4 hL64
        have hk0 : (0 : Int) ≤ (k : Int) := by omega
        go_upto_region 7 with (first | ((with_reducible apply wpList_store_sets (ty := 106) (g := wr.heap.size) (t := 106) (old := #[.int .i64 0, .bool false, .string ⟨#[]⟩])); (case hgd => with_reducible rfl); (case ho => with_reducible rfl); (case hx => rfl); (case hy => rfl); (case hg => exact heap_alloc_new wr _); (case hi => kernel_rfl); (case hold => kernel_rfl); (case h1 => kernel_rfl)) | ((with_reducible apply wpList_load_at (ty := 106) (A := ⟨gp, k * 3, none⟩) (l := [.int .i64 p.f0, .bool p.f1, .string p.f2]) (hu := Try.underlying106)); (case hgd => with_reducible rfl); (case ho => with_reducible rfl); (case hx => rfl); (case hc => exact HC.out); (case hd => rfl); (case hi => kernel_rfl)) | fail)
        have hb6 := below_sets (Nat.le_refl _) [.int .i64 p.f0, .bool p.f1, .string p.f2] 0 _ (below_alloc (Below.refl wr.heap.size wr) (.cells #[.int .i64 0, .bool false, .string ⟨#[]⟩] 106))
        have hq6 : (sets (wr.alloc (.cells #[.int .i64 0, .bool false, .string ⟨#[]⟩] 106)) wr.heap.size 0 [.int .i64 p.f0, .bool p.f1, .string p.f2]).heap[wr.heap.size]? = some (.cells ([.int .i64 p.f0, .bool p.f1, .string p.f2] : List Value).toArray 106 (0, 0)) := blk_sets [.int .i64 p.f0, .bool p.f1, .string p.f2] 0 #[.int .i64 0, .bool false, .string ⟨#[]⟩] _ (heap_alloc_new wr (.cells #[.int .i64 0, .bool false, .string ⟨#[]⟩] 106)) rfl
        have H6 := Lib.hid (And.intro (HK.out.1.below hb6) (And.intro HK.out.2 hq6))
        clear hb6 hq6 HK HC
        change Code.wp _ _ _ _ (sets (wr.alloc (.cells #[.int .i64 0, .bool false, .string ⟨#[]⟩] 106)) wr.heap.size 0 [.int .i64 p.f0, .bool p.f1, .string p.f2])
        generalize sets (wr.alloc (.cells #[.int .i64 0, .bool false, .string ⟨#[]⟩] 106)) wr.heap.size 0 [.int .i64 p.f0, .bool p.f1, .string p.f2] = W6 at *
        obtain ⟨pb, pw, pd⟩ := p
        obtain ⟨b, rfl⟩ := Int.eq_ofNat_of_zero_le (show 0 ≤ pb from HN.out.1)
        have hbL : b < L.length := by have h : (b : Int) < (L.length : Int) := HN.out.2.1; omega
        obtain ⟨gr, rfl, hLc⟩ := own_some H6.out.1.f.r (by have := H6.out.2.1.2.1; omega)
        have hcr : W6.cell? ⟨gr, b, none⟩ = some (.string (rdOf ⟨#[]⟩ L' (b : Int))) ∧ W6.frozen? ⟨gr, b, none⟩ = false := by
          have h := H6.out.1.f.r
          rw [H6.out.2.1.2.1] at h
          have h2 := own_at_of (enc := Value.string) (d := (⟨#[]⟩ : ByteArray)) h (b : Int) (by omega) (by omega)
          rwa [Int.toNat_natCast] at h2
        have hrd : (rdOf ⟨#[]⟩ L' (b : Int)).size ≤ 32 := by
          have hbl : b < L'.length := by have := H6.out.2.1.2.1; omega
          have : rdOf ⟨#[]⟩ L' (b : Int) = L'[b] := by unfold rdOf; simp [hbl]
          rw [this]
          exact H6.out.2.1.2.2.1 _ (List.getElem_mem hbl)
        have hrd2 : L'.getD (b : Int).toNat ⟨#[]⟩ = rdOf ⟨#[]⟩ L' (b : Int) := rfl
        obtain ⟨hc0, hf0⟩ := hcr
        have c0 := blk_cell H6.out.1.f.h 0
        have d0 := blk_cell H6.out.2.2 0
        have d1 := blk_cell H6.out.2.2 1
        have d2 := blk_cell H6.out.2.2 2
        have e2 := blk_cell H6.out.1.q 2
        have ef := blk_frozen H6.out.1.q 2
        have hb0 : (0 : Int) ≤ (b : Int) := by omega
        have hbi : (b : Int) < (L.length : Int) := by omega
        have hgr : gr < w.heap.size := HB.out.2 gr rfl
        cases pw with
        | true =>
          clear e2 ef hrd2
          generalize rdOf ⟨#[]⟩ L' (b : Int) = x at *
          go_wp2_with fail
          go_region
          have H7 := Lib.hid (And.intro ((H6.out.1.put H6.out.2.1.2.1 hgr (by omega) H4.out.2.2 b pd).below (below_drew1 (Below.refl _ _))) (And.intro (show run (L'.set b pd) r (ps.drop (k + 1)) = run L ⟨#[]⟩ ps from H6.out.2.1.1) (And.intro (show (L'.set b pd).length = L.length by rw [List.length_set]; exact H6.out.2.1.2.1) (And.intro (show ∀ x ∈ L'.set b pd, x.size ≤ 32 from fun x hx => by
            rcases List.mem_or_eq_of_mem_set hx with hx | rfl
            · exact H6.out.2.1.2.2.1 x hx
            · exact HN.out.2.2.1) (show r.size ≤ 32 * (k + 1) by have := H6.out.2.1.2.2.2; omega)))))
          clear H6
          generalize (W6.setCell ⟨gr, b, none⟩ (.string pd)).drew = W7 at *
          clear c0 d0 d1 d2 hc0 hf0 hb0 hbi hrd
          have sk : wrap64 ((k : Int) + 1) = (k : Int) + 1 := wrap64_in _ ⟨by omega, by have := HN.out.2.2.2.2.1; omega⟩
          go_wp2_with fail
          go_roundw
          case rel => exact ⟨k + 1, L'.set b pd, r, by have := HN.out.2.2.2.1; clear sk; omega, by first | rfl | (rw [sk]; rfl), H7.out.1, H7.out.2.1, H7.out.2.2.1, H7.out.2.2.2.1, H7.out.2.2.2.2⟩
          case measure =>
            have hkl := HN.out.2.2.2.1
            (try rw [sk])
            clear sk
            simp [intOf]
            omega
        | false =>
          have hrx : (r ++ rdOf ⟨#[]⟩ L' (b : Int)).size ≤ 32 * (k + 1) := by have := H6.out.2.1.2.2.2; rw [ByteArray.size_append]; omega
          have hsz : r.size + (rdOf ⟨#[]⟩ L' (b : Int)).size ≤ 9223372036854775807 := by have := H6.out.2.1.2.2.2; have := HN.out.2.2.2.2.1; omega
          have hrun7 : run L' (r ++ rdOf ⟨#[]⟩ L' (b : Int)) (ps.drop (k + 1)) = run L ⟨#[]⟩ ps := H6.out.2.1.1
          have HR7 := Lib.hid (And.intro hrx hrun7)
          clear hrx hrun7 hrd2
          generalize rdOf ⟨#[]⟩ L' (b : Int) = x at *
          go_wp2_with fail
          go_region
          have H7 := Lib.hid (And.intro ((H6.out.1.tell HB.out.1 HB.out.2 hrb H4.out.2.1 (r ++ x)).below (below_drew1 (Below.refl _ _))) (And.intro HR7.out.2 (And.intro H6.out.2.1.2.1 (And.intro H6.out.2.1.2.2.1 HR7.out.1))))
          clear H6 HR7
          generalize (W6.setCell ⟨rb, 2, none⟩ (.string (r ++ x))).drew = W7 at *
          clear c0 d0 d1 d2 hc0 hf0 hb0 hbi hrd e2 ef hsz
          have sk : wrap64 ((k : Int) + 1) = (k : Int) + 1 := wrap64_in _ ⟨by omega, by have := HN.out.2.2.2.2.1; omega⟩
          go_wp2_with fail
          go_roundw
          case rel => exact ⟨k + 1, L', r ++ x, by have := HN.out.2.2.2.1; clear sk; omega, by first | rfl | (rw [sk]; rfl), H7.out.1, H7.out.2.1, H7.out.2.2.1, H7.out.2.2.2.1, H7.out.2.2.2.2⟩
          case measure =>
            have hkl := HN.out.2.2.2.1
            (try rw [sk])
            clear sk
            simp [intOf]
            omega
      · have hkn : k = ps.length := by omega
        have HK := Lib.hid (And.intro hDI (And.intro hrun (And.intro hL' hs')))
        subst hkn
        clear hDI hrun hL' hs' hr' H4
        go_wp2_with (first | ((with_reducible apply wpList_load_row (ty := 73) (g := rb) (t := 73) (fr := (0, 0)) (hu := Try.underlying73)); (case hgd => with_reducible rfl); (case ho => with_reducible rfl); (case hx => rfl); (case hd => rfl); (case hg => exact HK.out.1.q); (case hi => kernel_rfl)) | ((with_reducible apply wpList_store_sets (ty := 73) (g := w.heap.size + 1) (t := 73) (old := #[.int .i64 0, .int .i64 0, .string ⟨#[]⟩])); (case hgd => with_reducible rfl); (case ho => with_reducible rfl); (case hx => rfl); (case hy => rfl); (case hg => exact HK.out.1.z); (case hi => kernel_rfl); (case hold => kernel_rfl); (case h1 => kernel_rfl)) | fail)
        have he : run L ⟨#[]⟩ ps = (L', r) := by rw [← HK.out.2.1, List.drop_length]; rfl
        have hbS := below_sets (Nat.le_refl _) [.int .i64 id, .int .i64 er, .string r] 0 _ (Below.refl (w.heap.size + 1) wr)
        refine bodyPost_ret (results_cell_row rfl _ _ (w.heap.size + 1) 73 _ (0, 0) _ rfl (blk_sets [.int .i64 id, .int .i64 er, .string r] 0 _ _ HK.out.1.z rfl) Try.underlying73 rfl (by kernel_rfl)) rfl ?_
        rw [he]
        exact ⟨rfl, ⟨(hbS.block g (by have := HB.out.1; omega)).trans HK.out.1.f.h, own_blk HK.out.1.f.r fun k hk => hbS.block k (by have := HB.out.2 k hk; omega), HK.out.1.f.n, HK.out.1.f.b⟩, ⟨hbS.os.trans HK.out.1.s.os, hbS.tape.trans HK.out.1.s.tape, hbS.output.trans HK.out.1.s.output, Nat.le_trans HK.out.1.s.size hbS.size, fun k hk hne => (hbS.block k (by omega)).trans (HK.out.1.s.block k hk hne)⟩⟩
end Go.Proofs.Ythldophikcgkcab.Y
