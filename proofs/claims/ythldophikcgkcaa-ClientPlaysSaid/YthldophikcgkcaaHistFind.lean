/- client.History: Find. -/
import Derived.Test.YthldophikcgkcaaHistAll
import Derived.Shelf.SlicesQ.IndexFunc
namespace Go.Proofs.Ythldophikcgkcaa.Y
set_option linter.unusedVariables false
set_option linter.unusedSimpArgs false
open Go.RowKit Go.Shelf Go.Proofs Go.Maps Go.IntWalk Go.Proofs.YthldophikcgkcaaW.PrintWords Go.Proofs.YthldophikcgkcaaW.PrintLast Go.Proofs.YthldophikcgkcaaW.PrintMore Go.Proofs.Ythldophikcgkcaa.X

instance : Inhabited EvV := ⟨⟨false, 0, 0, ⟨0, 0, 0, ⟨#[]⟩, false⟩, 0, ⟨#[]⟩⟩⟩
def isAns (id : Int) (e : EvV) : Bool := e.ans && (e.id == id)
set_option maxHeartbeats 2000000 in
set_option maxRecDepth 100000 in
theorem find_closure (w : World) (c : Nat) (id : Int) (hc : w.cell? ⟨c, 0, none⟩ = some (.int .i64 id)) (hcl : c < w.heap.size) : PredBelow Try.prog 47 #[.pointer (some ⟨c, 0, none⟩)] (fun x : EvV => .agg x.cells.toArray) (isAns id) w := fun W x hb => by
  have hc' : W.cell? ⟨c, 0, none⟩ = some (.int .i64 id) := (hb.cell (p := ⟨c, 0, none⟩) hcl).trans hc
  show Calls Try.prog 47 #[.agg #[.bool x.ans, .int .i64 x.id, .int .i64 x.gate, .int .i64 x.ask.what, .int .i64 x.ask.at_, .int .i64 x.ask.len, .string x.ask.data, .bool x.ask.sure, .int .i64 x.err, .string x.dat], .pointer (some ⟨c, 0, none⟩)] W _
  have hb1 := hb.alloc hb.size (.cells #[.bool x.ans, .int .i64 x.id, .int .i64 x.gate, .int .i64 x.ask.what, .int .i64 x.ask.at_, .int .i64 x.ask.len, .string x.ask.data, .bool x.ask.sure, .int .i64 x.err, .string x.dat] 68)
  have HB := Lib.hid hb1
  have HC := Lib.hid hb
  clear hb hb1 hc
  unfold isAns
  rcases hx : x.ans with _ | _
  · rw [Bool.false_and]
    rw [hx] at HB
    go_enter Try.func47, Try.ntmps47
    go_wp2
    go_ret
    exact ⟨rfl, HB.out⟩
  · rw [Bool.true_and]
    rw [hx] at HB
    have hlt := Nat.lt_of_lt_of_le hcl HC.out.size
    go_enter Try.func47, Try.ntmps47
    go_wp2
    go_ret
    exact ⟨rfl, HB.out⟩
theorem blk_sets {g : Nat} {t : TypeId} : ∀ (l : List Value) (i : Nat) (cur : Array Value) (w : World), w.heap[g]? = some (.cells cur t (0, 0)) → i + l.length = cur.size → (sets w g i l).heap[g]? = some (.cells (cur.toList.take i ++ l).toArray t (0, 0))
  | [], i, cur, w, h, hl => by
    show w.heap[g]? = _
    rw [h, List.append_nil, List.take_of_length_le (by simp at hl ⊢; omega)]
  | v :: l, i, cur, w, h, hl => by
    show (sets (w.setCell ⟨g, i, none⟩ v) g (i + 1) l).heap[g]? = _
    rw [List.length_cons] at hl
    have hi : i < cur.size := by omega
    rw [blk_sets l (i + 1) (cur.setIfInBounds i v) (w.setCell ⟨g, i, none⟩ v) (blk_set h i v) (by rw [Array.size_setIfInBounds]; omega)]
    congr 3
    rw [Array.toList_setIfInBounds, List.take_set, List.take_succ_eq_append_getElem (by simpa using hi), List.set_append_right _ _ (by simp; omega)]
    have hm : i - min i cur.toList.length = 0 := by rw [Array.length_toList]; omega
    rw [List.length_take, hm]
    simp
theorem below_sets {B g : Nat} {w : World} (hB : B ≤ g) : ∀ (l : List Value) (i : Nat) (W : World), Below B w W → Below B w (sets W g i l)
  | [], _, _, h => h
  | v :: l, i, W, h => below_sets hB l (i + 1) _ (h.setCell hB v)
theorem run_loadVar_at {P : Program} (w : World) (a : Addr) (ty : TypeId) (l : List Value) (d : TypeDesc) (hc : ∀ j v, l[j]? = some v → w.cell? (a.add j) = some v)
    (hu : P.underlying ty = some d) (hd : (match d with | .struct _ | .array _ _ => true | _ => false) = true) (hi : (P.info? ty).map (·.size) = some l.length) :
    (loadVar ty a).run P w = .ok (.agg l.toArray) w := by
  have hl : (loadCells a l.length).run P w = .ok l.toArray w := run_loadCells_list (P := P) w a l hc
  cases hq : P.info? ty with
  | none => simp [hq] at hi
  | some i =>
    have hs : i.size = l.length := by simpa [hq] using hi
    have hagg : (isAgg ty).run P w = .ok true w := by
      cases d <;> simp_all [isAgg, underlying]
    simp [loadVar, hagg, Go.sizeOf, typeInfo, hq, hs, hl, Result.andThen]
theorem wpList_load_at {P : Program} {ops : Array Oper} {rest : List Oper} {o : Oper} {a : Act} {w : World} {Q : Exit → Act → World → Prop} (hgd : o.guard = none) (ty : TypeId) (x : Operand) (ho : o.op = .load ty x)
    (A : Addr) (hx : a.eval x = .pointer (some A)) (l : List Value) (hc : ∀ j v, l[j]? = some v → w.cell? (A.add j) = some v) (d : TypeDesc)
    (hu : P.underlying ty = some d) (hd : (match d with | .struct _ | .array _ _ => true | _ => false) = true) (hi : (P.info? ty).map (·.size) = some l.length)
    (h : wpList P ops Q rest (a.put o.dst (.agg l.toArray)) w) : wpList P ops Q (o :: rest) a w :=
  wpList_plain hgd fun _ hK => by
    have := run_loadVar_at w A ty l d hc hu hd hi
    unfold Oper.wp execOp
    simp only [ho, hx, Instr.loadAt, Instr.sureAddr, Sem.run_bind, Sem.run_pure, Result.andThen_ok, this]
    exact hK _ _ h
/-- What Find tells. -/
def evNone : EvV := ⟨false, 0, 0, ⟨0, 0, 0, ⟨#[]⟩, false⟩, 0, ⟨#[]⟩⟩
theorem flatV_at : ∀ (evs : List EvV) (j i : Nat) (v : Value), j < evs.length → (evs[j]!.cells)[i]? = some v → (flatV evs)[j * 10 + i]? = some v
  | [], j, i, v, h, _ => by simp at h
  | t :: s, j, i, v, hj, hi => by
    show (t.cells ++ flatV s)[j * 10 + i]? = some v
    cases j with
    | zero =>
      have hi7 : i < 10 := (List.getElem?_eq_some_iff.1 hi).1
      rw [List.getElem?_append_left (by show 0 * 10 + i < 10; omega)]
      rw [show 0 * 10 + i = i by omega]
      exact hi
    | succ j =>
      have e : (j + 1) * 10 + i = 10 + (j * 10 + i) := by omega
      rw [e, List.getElem?_append_right (by show 10 ≤ _; omega)]
      have e2 : 10 + (j * 10 + i) - t.cells.length = j * 10 + i := by show 10 + (j * 10 + i) - 10 = _; omega
      rw [e2]
      exact flatV_at s j i v (by simpa using hj) (by simpa using hi)
theorem idx_none {p : EvV → Bool} : ∀ (l : List EvV) (i : Nat), l.find? p = none → Lib.idxByFrom (fun _ y => p y) default l i = -1
  | [], i, _ => rfl
  | y :: r, i, h => by
    rw [List.find?_cons] at h
    unfold Lib.idxByFrom
    rcases hp : p y with _ | _
    · rw [hp] at h
      exact idx_none r (i + 1) h
    · rw [hp] at h; cases h
theorem idx_some {p : EvV → Bool} {e : EvV} : ∀ (l : List EvV) (i : Nat), l.find? p = some e → ∃ j : Nat, j < l.length ∧ Lib.idxByFrom (fun _ y => p y) default l i = ((i + j : Nat) : Int) ∧ l[j]! = e
  | [], i, h => by cases h
  | y :: r, i, h => by
    rw [List.find?_cons] at h
    unfold Lib.idxByFrom
    rcases hp : p y with _ | _
    · rw [hp] at h
      obtain ⟨j, h1, h2, h3⟩ := idx_some r (i + 1) h
      exact ⟨j + 1, by simpa using h1, by rw [if_neg (by simp [hp]), h2]; congr 1; omega, by simpa using h3⟩
    · rw [hp] at h
      exact ⟨0, by simp, by rw [if_pos rfl]; simp, by simpa using h⟩
set_option maxHeartbeats 4000000 in
set_option maxRecDepth 100000 in
theorem find_n (w : World) (F : Nat → Prop) (gh bm : Nat) (v : Value) (evs : List EvV) (op : Int → Prop) (next id : Int) (H : HI w F gh bm v evs op next) (hl : evs.length ≤ 5000) (h0 : 0 < evs.length) :
    Calls Try.prog 29 #[.pointer (some ⟨gh, 0, none⟩), .int .i64 id] w fun e w' => e = .returned (.tuple #[.agg ((evs.find? (isAns id)).getD evNone).cells.toArray, .bool ((evs.find? (isAns id)).isSome)]) ∧ Below w.heap.size w w' := by
  have hb0 := below_alloc (below_alloc (Below.refl w.heap.size w) (.cells #[.int .i64 id] 3)) (.cells #[.bool false, .int .i64 0, .int .i64 0, .int .i64 0, .int .i64 0, .int .i64 0, .string ⟨#[]⟩, .bool false, .int .i64 0, .string ⟨#[]⟩] 68)
  generalize hW1 : (w.alloc (.cells #[.int .i64 id] 3)).alloc (.cells #[.bool false, .int .i64 0, .int .i64 0, .int .i64 0, .int .i64 0, .int .i64 0, .string ⟨#[]⟩, .bool false, .int .i64 0, .string ⟨#[]⟩] 68) = W1 at hb0
  have H1 := H.below hb0
  obtain ⟨A, c, rfl⟩ := own_slice H.r
  have hA : ∃ g, A = some ⟨g, 0, none⟩ ∧ g < W1.heap.size := by
    rcases H1.r.2 with ⟨_, h⟩ | ⟨g, cap, cur, hv, _, hcur, _⟩
    · omega
    · injection hv with h1 h2 h3
      exact ⟨g, h1, blk_lt hcur⟩
  obtain ⟨g, rfl, hg⟩ := hA
  have hc1 : W1.heap[w.heap.size]? = some (.cells #[.int .i64 id] 3 (0, 0)) := by
    rw [← hW1]
    exact (heap_alloc_old _ _ (by simp)).trans (heap_alloc_new _ _)
  have hc2 : W1.heap[w.heap.size + 1]? = some (.cells #[.bool false, .int .i64 0, .int .i64 0, .int .i64 0, .int .i64 0, .int .i64 0, .string ⟨#[]⟩, .bool false, .int .i64 0, .string ⟨#[]⟩] 68 (0, 0)) := by
    have := heap_alloc_new (w.alloc (.cells #[.int .i64 id] 3)) (.cells #[.bool false, .int .i64 0, .int .i64 0, .int .i64 0, .int .i64 0, .int .i64 0, .string ⟨#[]⟩, .bool false, .int .i64 0, .string ⟨#[]⟩] 68)
    rw [← hW1]; simpa using this
  have eg : ∀ args w, (callFunc 47 args).run Try.prog w = .ok (.enter 47 args) w := enters_of Try.func47 (by kernel_rfl) rfl
  have hI := AnyQ.slices_IndexFunc idx_Event 10 Try.isAgg68 Try.sizeOf68 EvV.cells (fun _ => rfl) (isAns id) 47 #[.pointer (some ⟨w.heap.size, 0, none⟩)] eg g 0 evs.length c evs W1
    (find_closure W1 w.heap.size id (by have := blk_cell hc1 0; exact this) (blk_lt hc1)) (Nat.le_refl _) (by omega) hg
    (fun j hj i v hi => by rw [show 0 + j * 10 + i = j * 10 + i by omega]; exact flatV_get H1.r _ _ (flatV_at evs j i v hj hi))
  rw [List.take_length] at hI
  obtain ⟨q0, q1, q2⟩ := H1.cells
  have HC := Lib.hid hI
  have HB := Lib.hid hb0
  have H2 := Lib.hid H1
  have HC2 := Lib.hid hc2
  clear hI hb0 H1 hc1 hc2 H hg
  rcases hf : evs.find? (isAns id) with _ | e
  · have hx : Lib.idxBy (fun _ y => isAns id y) evs default = -1 := idx_none evs 0 hf
    rw [hx] at HC
    clear hx
    go_enter Try.func29, Try.ntmps29
    go_wp2_with fail
    refine HC.out.mono ?_
    rintro e1 W2 ⟨rfl, hb⟩
    have hc3 := (hb.block (w.heap.size + 1) (blk_lt HC2.out)).trans HC2.out
    have hb3 := below_step HB.out hb
    have HD := Lib.hid (And.intro hc3 hb3)
    clear hb hb3 hW1
    clear hc3
    go_wp2_with (first | ((with_reducible apply wpList_store_sets (ty := 68) (g := w.heap.size + 1) (t := 68) (old := evNone.cells.toArray)); (case hgd => with_reducible rfl); (case ho => with_reducible rfl); (case hx => rfl); (case hy => rfl); (case hg => exact HD.out.1); (case hi => kernel_rfl); (case hold => kernel_rfl); (case h1 => kernel_rfl)) | fail)
    refine bodyPost_ret (results_row_tmp rfl _ _ (w.heap.size + 1) 68 _ (0, 0) _ rfl (blk_sets _ _ _ _ HD.out.1 rfl) Try.underlying68 rfl (by kernel_rfl) _ rfl) rfl ?_
    exact ⟨rfl, below_sets (Nat.le_succ _) _ _ _ HD.out.2⟩
  · obtain ⟨j, hj, hx, hje⟩ := idx_some evs 0 hf
    have hx : Lib.idxBy (fun _ y => isAns id y) evs default = (j : Int) := hx.trans (by congr 1; omega)
    rw [hx] at HC
    clear hx
    have hjz : ¬ ((j : Int) < 0) := by omega
    have hjl : (j : Int) < (evs.length : Int) := by omega
    have hj0 : (0 : Int) ≤ (j : Int) := by omega
    go_enter Try.func29, Try.ntmps29
    go_wp2_with fail
    refine HC.out.mono ?_
    rintro e1 W2 ⟨rfl, hb⟩
    have hc3 := (hb.block (w.heap.size + 1) (blk_lt HC2.out)).trans HC2.out
    have hb3 := below_step HB.out hb
    have H3 := H2.out.below hb
    have hce : ∀ i v, e.cells[i]? = some v → W2.cell? ((⟨g, j * 10, none⟩ : Addr).add i) = some v := fun i v hi => by
      have hadd : (⟨g, j * 10, none⟩ : Addr).add i = ⟨g, j * 10 + i, none⟩ := by unfold Addr.add; split <;> simp_all
      rw [hadd]
      exact flatV_get H3.r _ _ (flatV_at evs j i v hj (by rw [hje]; exact hi))
    obtain ⟨r0, r1, r2⟩ := H3.cells
    have HD := Lib.hid (And.intro hc3 (And.intro hb3 hce))
    clear hb hb3 hW1 H3 hce hc3 q0 q1 q2
    go_wp2_with (first | ((with_reducible apply wpList_store_sets (ty := 68) (g := w.heap.size + 1) (t := 68) (old := evNone.cells.toArray)); (case hgd => with_reducible rfl); (case ho => with_reducible rfl); (case hx => rfl); (case hy => rfl); (case hg => exact HD.out.1); (case hi => kernel_rfl); (case hold => kernel_rfl); (case h1 => kernel_rfl)) | ((with_reducible apply wpList_load_at (ty := 68) (A := ⟨g, j * 10, none⟩) (l := e.cells) (hu := Try.underlying68)); (case hgd => with_reducible rfl); (case ho => with_reducible rfl); (case hx => rfl); (case hc => exact HD.out.2.2); (case hd => rfl); (case hi => kernel_rfl)) | fail)
    refine bodyPost_ret (results_row_tmp rfl _ _ (w.heap.size + 1) 68 _ (0, 0) _ rfl (blk_sets _ _ _ _ HD.out.1 rfl) Try.underlying68 rfl (by kernel_rfl) _ rfl) rfl ?_
    exact ⟨rfl, below_sets (Nat.le_succ _) _ _ _ HD.out.2.1⟩
end Go.Proofs.Ythldophikcgkcaa.Y
