/- client.History: a history that is full; none; All. -/
import Derived.Test.YthldophikcgkcaaHistTell
import Derived.Test.YthldophikcgkcaaXGen
import Derived.Shelf.SlicesE.Clone
import Derived.Laws.ResultCell
import Derived.Laws.Rows
namespace Go.Proofs.Ythldophikcgkcaa.Y
set_option linter.unusedVariables false
set_option linter.unusedSimpArgs false
open Go.RowKit Go.Shelf Go.Proofs Go.Maps Go.IntWalk Go.Proofs.YthldophikcgkcaaW.PrintWords Go.Proofs.YthldophikcgkcaaW.PrintLast Go.Proofs.YthldophikcgkcaaW.PrintMore Go.Proofs.Ythldophikcgkcaa.X

set_option maxHeartbeats 4000000 in
set_option maxRecDepth 100000 in
theorem ask_full (w : World) (F : Nat → Prop) (gh bm : Nat) (v : Value) (evs : List EvV) (op : Int → Prop) (next gate : Int) (a : AskV) (H : HI w F gh bm v evs op next) (hl : 2000 ≤ evs.length) :
    Calls Try.prog 25 #[.pointer (some ⟨gh, 0, none⟩), .int .i64 gate, .agg a.cells.toArray] w fun e w' => e = .returned (.int .i64 0) ∧ Below w.heap.size w w' := by
  obtain ⟨A, c, rfl⟩ := own_slice H.r
  have hl' : (2000 : Int) ≤ (evs.length : Int) := by omega
  show Calls Try.prog 25 #[.pointer (some ⟨gh, 0, none⟩), .int .i64 gate, .agg #[.int .i64 a.what, .int .i64 a.at_, .int .i64 a.len, .string a.data, .bool a.sure]] w _
  have hb0 := below_alloc (Below.refl w.heap.size w) (.cells #[.int .i64 a.what, .int .i64 a.at_, .int .i64 a.len, .string a.data, .bool a.sure] 51)
  have H1 := H.below hb0
  obtain ⟨q0, q1, q2⟩ := H1.cells
  have HB := Lib.hid hb0
  clear hb0 H1 H
  go_enter Try.func25, Try.ntmps25
  go_wp2
  go_ret
  exact ⟨rfl, HB.out⟩
set_option maxHeartbeats 4000000 in
set_option maxRecDepth 100000 in
theorem ask_nil (w : World) (gate : Int) (a : AskV) :
    Calls Try.prog 25 #[.pointer none, .int .i64 gate, .agg a.cells.toArray] w fun e w' => e = .returned (.int .i64 0) ∧ Below w.heap.size w w' := by
  show Calls Try.prog 25 #[.pointer none, .int .i64 gate, .agg #[.int .i64 a.what, .int .i64 a.at_, .int .i64 a.len, .string a.data, .bool a.sure]] w _
  have HB := Lib.hid (below_alloc (Below.refl w.heap.size w) (.cells #[.int .i64 a.what, .int .i64 a.at_, .int .i64 a.len, .string a.data, .bool a.sure] 51))
  go_enter Try.func25, Try.ntmps25
  go_wp2
  go_ret
  exact ⟨rfl, HB.out⟩
set_option maxHeartbeats 4000000 in
set_option maxRecDepth 100000 in
theorem all_nil (w : World) : Calls Try.prog 27 #[.pointer none] w fun e w' => e = .returned (.slice none 0 0) ∧ w' = w := by
  go_enter Try.func27, Try.ntmps27
  go_wp2
  go_ret
  exact ⟨rfl, rfl⟩
set_option maxHeartbeats 4000000 in
set_option maxRecDepth 100000 in
theorem open_nil (w : World) : Calls Try.prog 28 #[.pointer none] w fun e w' => e = .returned (.slice none 0 0) ∧ w' = w := by
  go_enter Try.func28, Try.ntmps28
  go_wp2
  go_ret
  exact ⟨rfl, rfl⟩
theorem results_row_tmp {P : Program} {fn : Func} {p u : Tmp} {ty : TypeId} (h : fn.results = #[.cell p ty, .tmp u]) (tmps : Array Value) (w : World) (g : Nat) (t : TypeId) (cs : Array Value) (fr : Nat × Nat) (d : TypeDesc)
    (hp : tmps.getD p undef = .pointer (some ⟨g, 0, none⟩)) (hg : w.heap[g]? = some (.cells cs t fr)) (hu : P.underlying ty = some d) (hd : (match d with | .struct _ | .array _ _ => true | _ => false) = true) (hi : (P.info? ty).map (·.size) = some cs.size) (v : Value) (hv : tmps.getD u undef = v) :
    (results fn tmps).run P w = .ok (.tuple #[.agg cs, v]) w := by
  rw [results_cell_tmp h, hp, hv]
  simp [asAddr, run_loadVar_row w g t ty cs fr d hg hu hd hi, Result.andThen]
set_option maxHeartbeats 4000000 in
set_option maxRecDepth 100000 in
theorem find_nil (w : World) (id : Int) : Calls Try.prog 29 #[.pointer none, .int .i64 id] w fun e w' => e = .returned (.tuple #[.agg #[.bool false, .int .i64 0, .int .i64 0, .int .i64 0, .int .i64 0, .int .i64 0, .string ⟨#[]⟩, .bool false, .int .i64 0, .string ⟨#[]⟩], .bool false]) ∧ Below w.heap.size w w' := by
  go_enter Try.func29, Try.ntmps29
  go_wp2
  have hg : ((w.alloc (.cells #[.int .i64 id] 3)).alloc (.cells #[.bool false, .int .i64 0, .int .i64 0, .int .i64 0, .int .i64 0, .int .i64 0, .string ⟨#[]⟩, .bool false, .int .i64 0, .string ⟨#[]⟩] 68)).heap[w.heap.size + 1]? = some (.cells #[.bool false, .int .i64 0, .int .i64 0, .int .i64 0, .int .i64 0, .int .i64 0, .string ⟨#[]⟩, .bool false, .int .i64 0, .string ⟨#[]⟩] 68 (0, 0)) := by
    have := heap_alloc_new (w.alloc (.cells #[.int .i64 id] 3)) (.cells #[.bool false, .int .i64 0, .int .i64 0, .int .i64 0, .int .i64 0, .int .i64 0, .string ⟨#[]⟩, .bool false, .int .i64 0, .string ⟨#[]⟩] 68)
    simpa using this
  refine bodyPost_ret (results_row_tmp rfl _ _ (w.heap.size + 1) 68 _ (0, 0) _ rfl hg Try.underlying68 rfl (by kernel_rfl) _ rfl) rfl ?_
  exact ⟨rfl, below_alloc (below_alloc (Below.refl _ _) _) _⟩
set_option maxHeartbeats 4000000 in
set_option maxRecDepth 100000 in
theorem tell_nil (w : World) (gate id err : Int) (dat : ByteArray) :
    Calls Try.prog 26 #[.pointer none, .int .i64 gate, .agg #[.int .i64 id, .int .i64 err, .string dat]] w fun e w' => e = .returned (.bool false) ∧ Below w.heap.size w w' := by
  have HB := Lib.hid (below_drew1 (below_alloc (Below.refl w.heap.size w) (.cells #[.int .i64 id, .int .i64 err, .string dat] 63)))
  go_enter Try.func26, Try.ntmps26
  go_wp2_with fail
  refine start_ (n := 12) (S := (fun w' => True)) (ds := ([] : List Nat)) #[false, false, false, false, false, false, false, false, false, false, false, false] (by kernel_rfl) rfl rfl (trivial) (fun hHeld => ?_)
  refine pure_ (i := 0) (N := some 7) (v := ?_) (a' := ?_) #[true, false, false, false, false, false, false, false, false, false, false, false] rfl rfl (by kernel_rfl) (fun _ _ _ h => h) (Or.inl ⟨by rfl, ?_⟩) ?_ ?_
  rotate_left
  · (intro w'; go_simp; with_reducible rfl)
  rotate_left
  · simp only [Act.put, List.setIfInBounds_toArray, List.set_cons_zero, List.set_cons_succ, i64_w, i32_w]
    rfl
  refine pure_ (i := 1) (N := some 8) (v := ?_) (a' := ?_) #[true, true, false, false, false, false, false, false, false, false, false, false] rfl rfl (by kernel_rfl) (fun _ _ _ h => h) (Or.inl ⟨by rfl, ?_⟩) ?_ ?_
  rotate_left
  · (intro w'; go_simp; with_reducible rfl)
  rotate_left
  · simp only [Act.put, List.setIfInBounds_toArray, List.set_cons_zero, List.set_cons_succ, i64_w, i32_w]
    rfl
  refine pure_ (i := 2) (N := some 9) (v := ?_) (a' := ?_) #[true, true, true, false, false, false, false, false, false, false, false, false] rfl rfl (by kernel_rfl) (fun _ _ _ h => h) (Or.inl ⟨by rfl, ?_⟩) ?_ ?_
  rotate_left
  · (intro w'; go_simp; with_reducible rfl)
  rotate_left
  · simp only [Act.put, List.setIfInBounds_toArray, List.set_cons_zero, List.set_cons_succ, i64_w, i32_w]
    rfl
  refine pure_ (i := 3) (N := some 10) (v := undef) (a' := ?_) #[true, true, true, true, false, false, false, false, false, false, false, false] rfl rfl (by kernel_rfl) (fun _ _ _ h => h) (Or.inr ⟨by rfl, rfl⟩) ?_ ?_
  rotate_left
  · simp only [Act.put, List.setIfInBounds_toArray, List.set_cons_zero, List.set_cons_succ, i64_w, i32_w]
    rfl
  refine pure_ (i := 4) (N := some 11) (v := undef) (a' := ?_) #[true, true, true, true, true, false, false, false, false, false, false, false] rfl rfl (by kernel_rfl) (fun _ _ _ h => h) (Or.inr ⟨by rfl, rfl⟩) ?_ ?_
  rotate_left
  · simp only [Act.put, List.setIfInBounds_toArray, List.set_cons_zero, List.set_cons_succ, i64_w, i32_w]
    rfl
  refine pure_ (i := 5) (N := some 12) (v := undef) (a' := ?_) #[true, true, true, true, true, true, false, false, false, false, false, false] rfl rfl (by kernel_rfl) (fun _ _ _ h => h) (Or.inr ⟨by rfl, rfl⟩) ?_ ?_
  rotate_left
  · simp only [Act.put, List.setIfInBounds_toArray, List.set_cons_zero, List.set_cons_succ, i64_w, i32_w]
    rfl
  refine pure_ (i := 6) (N := some 13) (v := undef) (a' := ?_) #[true, true, true, true, true, true, true, false, false, false, false, false] rfl rfl (by kernel_rfl) (fun _ _ _ h => h) (Or.inr ⟨by rfl, rfl⟩) ?_ ?_
  rotate_left
  · simp only [Act.put, List.setIfInBounds_toArray, List.set_cons_zero, List.set_cons_succ, i64_w, i32_w]
    rfl
  refine pure_ (i := 7) (N := some 14) (v := undef) (a' := ?_) #[true, true, true, true, true, true, true, true, false, false, false, false] rfl rfl (by kernel_rfl) (fun _ _ _ h => h) (Or.inr ⟨by rfl, rfl⟩) ?_ ?_
  rotate_left
  · simp only [Act.put, List.setIfInBounds_toArray, List.set_cons_zero, List.set_cons_succ, i64_w, i32_w]
    rfl
  refine pure_ (i := 8) (N := some 15) (v := undef) (a' := ?_) #[true, true, true, true, true, true, true, true, true, false, false, false] rfl rfl (by kernel_rfl) (fun _ _ _ h => h) (Or.inr ⟨by rfl, rfl⟩) ?_ ?_
  rotate_left
  · simp only [Act.put, List.setIfInBounds_toArray, List.set_cons_zero, List.set_cons_succ, i64_w, i32_w]
    rfl
  refine pure_ (i := 9) (N := some 16) (v := undef) (a' := ?_) #[true, true, true, true, true, true, true, true, true, true, false, false] rfl rfl (by kernel_rfl) (fun _ _ _ h => h) (Or.inr ⟨by rfl, rfl⟩) ?_ ?_
  rotate_left
  · simp only [Act.put, List.setIfInBounds_toArray, List.set_cons_zero, List.set_cons_succ, i64_w, i32_w]
    rfl
  refine pure_ (i := 10) (N := some 17) (v := undef) (a' := ?_) #[true, true, true, true, true, true, true, true, true, true, true, false] rfl rfl (by kernel_rfl) (fun _ _ _ h => h) (Or.inr ⟨by rfl, rfl⟩) ?_ ?_
  rotate_left
  · simp only [Act.put, List.setIfInBounds_toArray, List.set_cons_zero, List.set_cons_succ, i64_w, i32_w]
    rfl
  refine pure_ (i := 11) (N := some 18) (v := ?_) (a' := ?_) #[true, true, true, true, true, true, true, true, true, true, true, true] rfl rfl (by kernel_rfl) (fun _ _ _ h => h) (Or.inl ⟨by rfl, ?_⟩) ?_ ?_
  rotate_left
  · (intro w'; go_simp; with_reducible rfl)
  rotate_left
  · simp only [Act.put, List.setIfInBounds_toArray, List.set_cons_zero, List.set_cons_succ, i64_w, i32_w]
    rfl
  refine done_ (by kernel_rfl) ?_
  go_wp2
  go_ret
  exact ⟨rfl, HB.out⟩
theorem flatV_get {w : World} {g : Nat} {B n : Nat} {cap : Nat} {xs : List Value} (h : w.ownsRow B 68 10 (.slice (some ⟨g, 0, none⟩) n cap) n xs) : ∀ j u, xs[j]? = some u → w.cell? ⟨g, j, none⟩ = some u := by
  rcases h.2 with ⟨h0, _⟩ | ⟨g2, cap2, cur, hv', hB, hcur, hncap, hmax, hsz, htake⟩
  · cases h0
  · injection hv' with h1 h2 h3
    injection h1 with h1
    have hgg : g = g2 := by injection h1
    subst hgg
    intro j u hj
    have : w.cell? ⟨g, j, none⟩ = cur[j]? := cell_of_row w g j cur _ _ hcur
    rw [this]
    rw [← htake] at hj
    have hj' : j < n * 10 := by
      have := (List.getElem?_eq_some_iff.1 hj).1
      rw [List.length_take] at this
      omega
    rw [List.getElem?_take_of_lt hj'] at hj
    simpa using hj
set_option maxHeartbeats 4000000 in
set_option maxRecDepth 100000 in
theorem clone_ev (w : World) (B : Nat) (v : Value) (evs : List EvV) (h : w.ownsRow B 68 10 v evs.length (flatV evs)) (hl : evs.length ≤ 5000) :
    Calls Try.prog 44 #[v] w fun e w' => ∃ v', e = .returned v' ∧ w'.ownsRow w.heap.size 68 10 v' evs.length (flatV evs) ∧ Below w.heap.size w w' := by
  rcases h.2 with ⟨rfl, h0⟩ | ⟨g, cap, cur, rfl, _, hcur, _⟩
  · refine (AnyE.slices_Clone_nil clone_Event 0 0 w).mono ?_
    rintro e w' ⟨rfl, rfl⟩
    have : evs = [] := List.eq_nil_of_length_eq_zero h0
    subst this
    exact ⟨_, rfl, World.ownsRow_nil _ _ _ _, Below.refl _ _⟩
  · obtain ⟨i0, hi0, hzz⟩ := Option.map_eq_some_iff.1 (show (Try.prog.info? 68).map (fun i => (i.zero, i.size, i.bytes)) = some (some (.agg #[.bool false, .int .i64 0, .int .i64 0, .int .i64 0, .int .i64 0, .int .i64 0, .string ⟨#[]⟩, .bool false, .int .i64 0, .string ⟨#[]⟩]), 10, 96) by kernel_rfl)
    simp only [Prod.mk.injEq] at hzz
    obtain ⟨hz0, hz1, hz2⟩ := hzz
    refine (AnyE.slices_Clone clone_Event i0 _ 10 96 hi0 hz0 hz1 hz2 rfl (by decide) Try.sizeOf68 g 0 evs.length cap (flatV evs) w (flatV_len evs) (by simp only [maxLen]; omega) (by omega)
      (fun j u hj => by rw [show 0 + j = j by omega]; exact flatV_get h j u hj) (flatV_one evs)).mono ?_
    rintro e w' ⟨v', rfl, ho, hv, hb⟩
    exact ⟨v', rfl, ho, hb⟩
set_option maxHeartbeats 4000000 in
set_option maxRecDepth 100000 in
theorem hall_n (w : World) (F : Nat → Prop) (gh bm : Nat) (v : Value) (evs : List EvV) (op : Int → Prop) (next : Int) (H : HI w F gh bm v evs op next) (hl : evs.length ≤ 5000) :
    Calls Try.prog 27 #[.pointer (some ⟨gh, 0, none⟩)] w fun e w' => ∃ A c, e = .returned (.slice A evs.length c) ∧ w'.ownsRow w.heap.size 68 10 (.slice A evs.length c) evs.length (flatV evs) ∧ Below w.heap.size w w' := by
  have HC := Lib.hid (clone_ev w 0 v evs H.r hl)
  obtain ⟨q0, q1, q2⟩ := H.cells
  obtain ⟨A, c, rfl⟩ := own_slice H.r
  clear H
  go_enter Try.func27, Try.ntmps27
  go_wp2_with fail
  refine HC.out.mono ?_
  rintro e1 W1 ⟨v', rfl, ho, hb⟩
  obtain ⟨A', c', rfl⟩ := own_slice ho
  have HO := Lib.hid (And.intro ho hb)
  clear ho hb q0 q1 q2
  go_wp2
  go_ret
  exact ⟨_, _, rfl, HO.out.1, HO.out.2⟩
end Go.Proofs.Ythldophikcgkcaa.Y
