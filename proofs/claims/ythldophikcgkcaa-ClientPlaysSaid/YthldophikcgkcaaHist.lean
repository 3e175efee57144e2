/- client.History: what it is in memory; New, Ask. -/
import Derived.Test.YthldophikcgkcaaOMap
import Derived.Test.YthldophikcgkcaaWWords
import Derived.Test.YthldophikcgkcaaWLast
import Derived.Test.YthldophikcgkcaaWMore
import Derived.Test.YthldophikcgkcaaAid
import Derived.Maps.AppendAt
import Derived.Carry
import Derived.LoopTactic
import Derived.Lib.Hide
namespace Go.Proofs.Ythldophikcgkcaa.Y
set_option linter.unusedVariables false
set_option linter.unusedSimpArgs false
open Go.RowKit Go.Proofs Go.Maps Go.IntWalk Go.Proofs.YthldophikcgkcaaW.PrintWords Go.Proofs.YthldophikcgkcaaW.PrintLast Go.Proofs.YthldophikcgkcaaW.PrintMore Go.Proofs.Ythldophikcgkcaa.X

/-- An event, or what is asked for. -/
structure AskV where
  what : Int
  at_ : Int
  len : Int
  data : ByteArray
  sure : Bool
structure EvV where
  ans : Bool
  id : Int
  gate : Int
  ask : AskV
  err : Int
  dat : ByteArray
def AskV.cells (a : AskV) : List Value := [.int .i64 a.what, .int .i64 a.at_, .int .i64 a.len, .string a.data, .bool a.sure]
def EvV.cells (e : EvV) : List Value := [.bool e.ans, .int .i64 e.id, .int .i64 e.gate, .int .i64 e.ask.what, .int .i64 e.ask.at_, .int .i64 e.ask.len, .string e.ask.data, .bool e.ask.sure, .int .i64 e.err, .string e.dat]
def flatV (l : List EvV) : List Value := l.flatMap EvV.cells
theorem flatV_len (l : List EvV) : (flatV l).length = l.length * 10 := by
  induction l with
  | nil => rfl
  | cons t s ih =>
    show (t.cells ++ flatV s).length = _
    rw [List.length_append, ih]
    show 10 + s.length * 10 = (s.length + 1) * 10
    omega
theorem flatV_one (l : List EvV) : ∀ u ∈ flatV l, u.oneCell' = true := by
  intro u hu
  obtain ⟨t, _, h⟩ := List.mem_flatMap.1 hu
  simp only [EvV.cells, List.mem_cons, List.not_mem_nil, or_false] at h
  rcases h with rfl | rfl | rfl | rfl | rfl | rfl | rfl | rfl | rfl | rfl <;> rfl
/-- All that is not in F is as it was. -/
structure KF (w w' : World) (F : Nat → Prop) : Prop where
  os : w'.os = w.os
  tape : w'.tape = w.tape
  output : w'.output = w.output
  size : w.heap.size ≤ w'.heap.size
  block : ∀ j, j < w.heap.size → ¬ F j → w'.heap[j]? = w.heap[j]?
theorem KF.of {w w' : World} (hb : Below w.heap.size w w') (F : Nat → Prop) : KF w w' F := ⟨hb.os, hb.tape, hb.output, hb.size, fun j hj _ => hb.block j hj⟩
theorem KF.trans {w w1 w2 : World} {F : Nat → Prop} (h : KF w w1 F) (h2 : KF w1 w2 F) : KF w w2 F :=
  ⟨h2.os.trans h.os, h2.tape.trans h.tape, h2.output.trans h.output, Nat.le_trans h.size h2.size, fun j hj hg => (h2.block j (Nat.lt_of_lt_of_le hj h.size) hg).trans (h.block j hj hg)⟩
/-- A history: its events, the numbers that are open, the last number; its blocks are in F. -/
structure HI (w : World) (F : Nat → Prop) (gh bm : Nat) (v : Value) (evs : List EvV) (op : Int → Prop) (next : Int) : Prop where
  h : w.heap[gh]? = some (.cells #[v, .map (some bm), .int .i64 next] 102 (0, 0))
  r : w.ownsRow 0 68 10 v evs.length (flatV evs)
  m : ∃ N : Nat, (N : Int) ≤ next ∧ OMap w bm N op
  fh : F gh
  fm : F bm
  fr : ∀ k, v.ownBlock = some k → F k ∧ k ≠ gh
  lt : ∀ k, F k → k < w.heap.size
theorem HI.ne {w : World} {F : Nat → Prop} {gh bm : Nat} {v : Value} {evs : List EvV} {op : Int → Prop} {next : Int} (h : HI w F gh bm v evs op next) : gh ≠ bm := by
  intro e
  obtain ⟨N, _, hm⟩ := h.m
  obtain ⟨es, k, hb⟩ := hm.blk
  have := h.h
  rw [e, hb] at this
  cases this
theorem HI.below {w w' : World} {F : Nat → Prop} {gh bm : Nat} {v : Value} {evs : List EvV} {op : Int → Prop} {next : Int} (h : HI w F gh bm v evs op next) (hb : Below w.heap.size w w') : HI w' F gh bm v evs op next :=
  ⟨(hb.block _ (h.lt _ h.fh)).trans h.h, h.r.kept (row := none) ⟨hb.os, hb.tape, hb.output, hb.size, fun k hk _ => hb.block k hk⟩ (by cases hv : v.ownBlock <;> simp), (h.m.imp fun N hN => ⟨hN.1, hN.2.same (hb.block _ (h.lt _ h.fm))⟩), h.fh, h.fm, h.fr, fun k hk => Nat.lt_of_lt_of_le (h.lt k hk) hb.size⟩
theorem HI.cells {w : World} {F : Nat → Prop} {gh bm : Nat} {v : Value} {evs : List EvV} {op : Int → Prop} {next : Int} (h : HI w F gh bm v evs op next) : w.cell? ⟨gh, 0, none⟩ = some v ∧ w.cell? ⟨gh, 1, none⟩ = some (.map (some bm)) ∧ w.cell? ⟨gh, 2, none⟩ = some (.int .i64 next) := ⟨blk_cell h.h 0, blk_cell h.h 1, blk_cell h.h 2⟩
set_option maxHeartbeats 2000000 in
set_option maxRecDepth 100000 in
theorem hnew_n (w : World) : Calls Try.prog 24 #[] w fun e w' => ∃ F gh bm, e = .returned (.pointer (some ⟨gh, 0, none⟩)) ∧ HI w' F gh bm (.slice none 0 0) [] (fun _ => False) 0 ∧ (∀ k, F k → w.heap.size ≤ k) ∧ Below w.heap.size w w' := by
  have hmm := @run_makeMap Try.prog
  go_enter Try.func24, Try.ntmps24
  go_wp2
  go_ret
  refine ⟨fun k => k = w.heap.size ∨ k = w.heap.size + 1, w.heap.size + 1, w.heap.size, rfl, ⟨?_, ?_, ?_, Or.inr rfl, Or.inl rfl, ?_, ?_⟩, ?_, ?_⟩
  · have := heap_alloc_new (w.alloc (.map #[] 0)) (.cells #[.slice none 0 0, .map (some w.heap.size), .int .i64 0] 102)
    simpa using this
  · exact World.ownsRow_nil _ _ _ _
  · refine ⟨0, Int.le_refl _, (OMap.made w).same ?_⟩
    rw [heap_alloc_old _ _ (by simp)]
  · intro k hk; simp [Value.ownBlock] at hk
  · rintro k (rfl | rfl) <;> simp <;> omega
  · rintro k (rfl | rfl) <;> omega
  · exact below_alloc (below_alloc (Below.refl _ _) _) _
theorem HI.setNext {w : World} {F : Nat → Prop} {gh bm : Nat} {v : Value} {evs : List EvV} {op : Int → Prop} {next : Int} (h : HI w F gh bm v evs op next) (n' : Int) (hn : next ≤ n') : HI (w.setCell ⟨gh, 2, none⟩ (.int .i64 n')) F gh bm v evs op n' := by
  have hne : ∀ j, j ≠ gh → (w.setCell ⟨gh, 2, none⟩ (.int .i64 n')).heap[j]? = w.heap[j]? := fun j hj => Below.heap_setCell _ _ _ _ hj
  refine ⟨blk_put h.h 2 _ rfl, ?_, (h.m.imp fun N hN => ⟨by omega, hN.2.same (hne _ h.ne.symm)⟩), h.fh, h.fm, h.fr, fun k hk => by simpa [World.setCell] using h.lt k hk⟩
  refine h.r.kept (row := some gh) ⟨rfl, rfl, rfl, by simp [World.setCell], fun k _ hk => hne k (fun e => hk (by rw [e]))⟩ ?_
  cases hv : v.ownBlock with
  | none => exact Or.inl rfl
  | some k => exact Or.inr fun e => (h.fr k hv).2 (Option.some.inj e)
theorem KF.set {w w' : World} {F : Nat → Prop} (h : KF w w' F) {g i : Nat} {u : Value} (hg : F g) : KF w (w'.setCell ⟨g, i, none⟩ u) F :=
  ⟨h.os, h.tape, h.output, by simpa [World.setCell] using h.size, fun j hj hF => (Below.heap_setCell w' ⟨g, i, none⟩ u j (fun e => hF (by rw [e]; exact hg))).trans (h.block j hj hF)⟩
theorem own_slice {w : World} {B : Nat} {e : TypeId} {sz n : Nat} {v : Value} {xs : List Value} (h : w.ownsRow B e sz v n xs) : ∃ A c, v = .slice A n c := by
  rcases h.2 with ⟨rfl, h0⟩ | ⟨g, cap, cur, rfl, _⟩
  · subst h0; exact ⟨_, _, rfl⟩
  · exact ⟨_, _, rfl⟩
theorem append_event2 {P : Program} {t : TypeId} {o : Oper} {s x : Operand} {a : Act} {W w' : World} {v u v' : Value} (ho : o.op = .call { callee := .builtin .append, args := #[s, x], argTypes := #[t, t] }) (hs : a.eval s = v) (hx : a.eval x = u)
    (hr : (Builtin.append_ #[t, t] o.type #[v, u]).run P W = .ok v' w') : (execOp a.eval o).run P W = .ok (.value v') w' := by
  unfold execOp
  simp only [ho, resolve, invoke, builtin, Sem.run_bind, Sem.run_pure, Result.andThen_ok, List.map_toArray, List.map_cons, List.map_nil, hs, hx, hr]
theorem own_lt {w : World} {B : Nat} {e : TypeId} {sz n : Nat} {v : Value} {xs : List Value} (h : w.ownsRow B e sz v n xs) {k : Nat} (hk : v.ownBlock = some k) : k < w.heap.size := by
  rcases h.2 with ⟨rfl, h0⟩ | ⟨g, cap, cur, rfl, _, hcur, _⟩
  · exact absurd hk (by simp [Value.ownBlock])
  · have : g = k := Option.some.inj hk
    rw [← this]
    exact (Array.getElem?_eq_some_iff.1 hcur).1
theorem HI.nb {w : World} {F : Nat → Prop} {gh bm : Nat} {v : Value} {evs : List EvV} {op : Int → Prop} {next : Int} (h : HI w F gh bm v evs op next) : some bm ≠ v.ownBlock := by
  intro e
  rcases h.r.2 with ⟨h9, _⟩ | ⟨g, cap, cur, hv9, hB, hcur, _⟩
  · rw [h9] at e; exact absurd e (by simp [Value.ownBlock])
  · rw [hv9] at e
    have e2 : bm = g := Option.some.inj e
    obtain ⟨N, _, hm⟩ := h.m
    obtain ⟨es, k, hm9⟩ := hm.blk
    rw [← e2, hm9] at hcur
    cases hcur
theorem HI.ng {w : World} {F : Nat → Prop} {gh bm : Nat} {v : Value} {evs : List EvV} {op : Int → Prop} {next : Int} (h : HI w F gh bm v evs op next) : some gh ≠ v.ownBlock := fun e => (h.fr gh e.symm).2 rfl
/-- An event is appended: the row that comes of it. -/
theorem app_ev {W : World} {F : Nat → Prop} {gh bm : Nat} {v : Value} {evs : List EvV} {op : Int → Prop} {next : Int} (h : HI W F gh bm v evs op next) (e : EvV) (g6 : Nat) (hg6 : W.heap[g6]? = some (.cells e.cells.toArray 68 (0, 0))) (hl : evs.length ≤ 5000) :
    ∃ v' w', (Builtin.append_ #[60, 60] 60 #[v, .slice (some ⟨g6, 0, none⟩) 1 1]).run Try.prog W = .ok v' w' ∧ w'.ownsRow 0 68 10 v' (evs ++ [e]).length (flatV (evs ++ [e])) ∧ W.grownBy w' v.ownBlock ∧ (v'.ownBlock = v.ownBlock ∨ v'.ownBlock = some W.heap.size) := by
  obtain ⟨i0, hi, hzz⟩ := Option.map_eq_some_iff.1 (show (Try.prog.info? 68).map (fun i => (i.zero, i.size, i.bytes)) = some (some (.agg #[.bool false, .int .i64 0, .int .i64 0, .int .i64 0, .int .i64 0, .int .i64 0, .string ⟨#[]⟩, .bool false, .int .i64 0, .string ⟨#[]⟩]), 10, 96) by kernel_rfl)
  simp only [Prod.mk.injEq] at hzz
  obtain ⟨hz0, hz1, hz2⟩ := hzz
  obtain ⟨v', w', h1, h2, h3, _, h5⟩ := run_append_own_at (P := Try.prog) W 0 60 60 68 i0 _ 10 96 Try.underlying60 hi hz0 hz1 hz2 rfl (by decide) v evs.length (flatV evs) h.r ⟨g6, 0, none⟩ 1 1 e.cells rfl (fun j u hj => by
    have e1 : (⟨g6, 0, none⟩ : Addr).add j = ⟨g6, j, none⟩ := by
      unfold Addr.add
      split <;> simp <;> omega
    rw [e1, blk_cell hg6 j, List.getElem?_toArray]; exact hj) (flatV_one [e] |> fun h u hu => h u (by simpa [flatV] using hu)) (by unfold maxLen; omega) (by omega) (Nat.zero_le _)
  exact ⟨v', w', h1, by simpa [flatV] using h2, h3, h5⟩
/-- The row is laid into the history. -/
theorem HI.grow {w W W7 : World} {F : Nat → Prop} {gh bm : Nat} {v v' : Value} {evs : List EvV} {op : Int → Prop} {next : Int} (h : HI W F gh bm v evs op next) (hk : KF w W F) (hFw : ∀ k, F k → k < w.heap.size) (e : EvV) (hown : W7.ownsRow 0 68 10 v' (evs ++ [e]).length (flatV (evs ++ [e]))) (hg : W.grownBy W7 v.ownBlock) (h5 : v'.ownBlock = v.ownBlock ∨ v'.ownBlock = some W.heap.size) :
    HI (W7.setCell ⟨gh, 0, none⟩ v') (fun k => F k ∨ v'.ownBlock = some k) gh bm v' (evs ++ [e]) op next ∧ (∀ k, (F k ∨ v'.ownBlock = some k) → F k ∨ w.heap.size ≤ k) ∧ KF w (W7.setCell ⟨gh, 0, none⟩ v') F := by
  have hgh : gh < W.heap.size := h.lt _ h.fh
  have hbm : bm < W.heap.size := h.lt _ h.fm
  have hne : ∀ j, j ≠ gh → (W7.setCell ⟨gh, 0, none⟩ v').heap[j]? = W7.heap[j]? := fun j hj => Below.heap_setCell _ _ _ _ hj
  have hvg : ∀ k, v'.ownBlock = some k → (F k ∨ k = W.heap.size) ∧ k ≠ gh := by
    intro k hk'
    rcases h5 with h5 | h5
    · rw [h5] at hk'; exact ⟨Or.inl (h.fr k hk').1, (h.fr k hk').2⟩
    · rw [h5] at hk'
      have : W.heap.size = k := Option.some.inj hk'
      exact ⟨Or.inr this.symm, by omega⟩
  have hsz : (W7.setCell ⟨gh, 0, none⟩ v').heap.size = W7.heap.size := by simp [World.setCell]
  refine ⟨⟨blk_put ((hg.block _ hgh h.ng).trans h.h) 0 _ rfl, ?_, (h.m.imp fun N hN => ⟨hN.1, hN.2.same ((hne _ h.ne.symm).trans (hg.block _ hbm h.nb))⟩), Or.inl h.fh, Or.inl h.fm, fun k hk' => ⟨Or.inr hk', (hvg k hk').2⟩, ?_⟩, ?_, ?_⟩
  · refine hown.kept (row := some gh) ⟨rfl, rfl, rfl, by rw [hsz]; exact Nat.le_refl _, fun k _ hk' => hne k (fun e => hk' (by rw [e]))⟩ ?_
    cases hv : v'.ownBlock with
    | none => exact Or.inl rfl
    | some k => exact Or.inr fun e => (hvg k hv).2 (Option.some.inj e)
  · rintro k (hk' | hk')
    · rw [hsz]; exact Nat.lt_of_lt_of_le (h.lt k hk') hg.size
    · rw [hsz]; exact own_lt hown hk'
  · rintro k (hk' | hk')
    · exact Or.inl hk'
    · rcases (hvg k hk').1 with h6 | h6
      · exact Or.inl h6
      · exact Or.inr (by rw [h6]; exact hk.size)
  · refine KF.set ⟨hg.os.trans hk.os, hg.tape.trans hk.tape, hg.output.trans hk.output, Nat.le_trans hk.size hg.size, fun j hj hF => ?_⟩ h.fh
    exact (hg.block j (Nat.lt_of_lt_of_le hj hk.size) (fun e => hF (h.fr j e.symm).1)).trans (hk.block j hj hF)
set_option maxHeartbeats 8000000 in
set_option maxRecDepth 100000 in
theorem ask_n (w : World) (F : Nat → Prop) (gh bm : Nat) (v : Value) (evs : List EvV) (op : Int → Prop) (next gate : Int) (a : AskV) (H : HI w F gh bm v evs op next) (hl : evs.length < 2000) (h0 : 0 ≤ next) (h1 : next ≤ 100000) (hop : ∀ k, op k → k ≤ next) :
    Calls Try.prog 25 #[.pointer (some ⟨gh, 0, none⟩), .int .i64 gate, .agg a.cells.toArray] w fun e w' => ∃ F' v', e = .returned (.int .i64 (next + 1)) ∧ HI w' F' gh bm v' (evs ++ [⟨false, next + 1, gate, a, 0, ⟨#[]⟩⟩]) (fun k => op k ∨ k = next + 1) (next + 1) ∧ (∀ k, F' k → F k ∨ w.heap.size ≤ k) ∧ KF w w' F := by
  obtain ⟨A, c, rfl⟩ := own_slice H.r
  have hl' : ¬ ((2000 : Int) ≤ (evs.length : Int)) := by omega
  have sn : wrap64 (next + 1) = next + 1 := wrap64_in _ ⟨by omega, by omega⟩
  show Calls Try.prog 25 #[.pointer (some ⟨gh, 0, none⟩), .int .i64 gate, .agg #[.int .i64 a.what, .int .i64 a.at_, .int .i64 a.len, .string a.data, .bool a.sure]] w _
  have hb0 := below_alloc (Below.refl w.heap.size w) (.cells #[.int .i64 a.what, .int .i64 a.at_, .int .i64 a.len, .string a.data, .bool a.sure] 51)
  have hbx := heap_alloc_new w (.cells #[.int .i64 a.what, .int .i64 a.at_, .int .i64 a.len, .string a.data, .bool a.sure] 51)
  have H1 := H.below hb0
  obtain ⟨q0, q1, q2⟩ := H1.cells
  have qf := blk_frozen H1.h 2
  have H2 := H1.setNext (next + 1) (by omega)
  have M2 : ∃ N : Nat, (N : Int) ≤ next ∧ OMap ((w.alloc (.cells #[.int .i64 a.what, .int .i64 a.at_, .int .i64 a.len, .string a.data, .bool a.sure] 51)).setCell ⟨gh, 2, none⟩ (.int .i64 (next + 1))) bm N op := H1.m.imp fun N hN => ⟨hN.1, hN.2.same (Below.heap_setCell _ _ _ _ H1.ne.symm)⟩
  have K2 := (KF.of hb0 F).set (i := 2) (u := .int .i64 (next + 1)) H.fh
  have hgne : w.heap.size ≠ gh := by have := H.lt _ H.fh; omega
  have hbx2 := (Below.heap_setCell (w.alloc (.cells #[.int .i64 a.what, .int .i64 a.at_, .int .i64 a.len, .string a.data, .bool a.sure] 51)) ⟨gh, 2, none⟩ (.int .i64 (next + 1)) w.heap.size hgne).trans hbx
  have HH := Lib.hid (And.intro H2 (And.intro K2 (And.intro hbx2 M2)))
  have HF := Lib.hid (And.intro H.lt H.fr)
  clear hb0 hbx H1 H2 K2 hbx2 H M2
  go_enter Try.func25, Try.ntmps25
  go_upto_region 4 with (fail)
  generalize (w.alloc (.cells #[.int .i64 a.what, .int .i64 a.at_, .int .i64 a.len, .string a.data, .bool a.sure] 51)).setCell ⟨gh, 2, none⟩ (.int .i64 (next + 1)) = W1 at *
  clear q0 q1 q2 qf
  obtain ⟨N, hN, hM⟩ := HH.out.2.2.2
  obtain ⟨W3, hlay, hM3, hg3⟩ := (hM.same (w' := W1.drew) rfl).lay (by omega) (x := next + 1) ⟨by omega, by omega⟩
  have hlay' : (Instr.mapUpdate 100 (.map (some bm)) (.int .i64 (next + 1)) (.bool true)).run Try.prog W1.drew = .ok () W3 := hlay
  clear hlay
  have H3 : HI W3 F gh bm (.slice A evs.length c) evs (fun k => op k ∨ k = next + 1) (next + 1) := by
    have h := HH.out.1
    refine ⟨(hg3.block _ (h.lt _ h.fh) (fun e => h.ne (Option.some.inj e))).trans h.h, ?_, ⟨N + 1, by omega, hM3⟩, h.fh, h.fm, h.fr, fun k hk => Nat.lt_of_lt_of_le (h.lt k hk) hg3.size⟩
    refine World.ownsRow.kept (w := W1.drew) (row := some bm) h.r hg3 ?_
    exact Or.inr fun e => h.nb e.symm
  have K3 : KF w W3 F := HH.out.2.1.trans ⟨hg3.os, hg3.tape, hg3.output, hg3.size, fun j hj hF => hg3.block j hj (fun e => hF (by rw [Option.some.inj e]; exact HH.out.1.fm))⟩
  have B3 := (hg3.block w.heap.size (blk_lt HH.out.2.2.1) (fun e => by have h2 : w.heap.size = bm := Option.some.inj e; have := HF.out.1 _ HH.out.1.fm; omega)).trans HH.out.2.2.1
  have c1 : W1.drew.cell? ⟨gh, 1, none⟩ = some (.map (some bm)) := HH.out.1.cells.2.1
  have c2 : W1.drew.cell? ⟨gh, 2, none⟩ = some (.int .i64 (next + 1)) := HH.out.1.cells.2.2
  have d1 : W3.cell? ⟨gh, 1, none⟩ = some (.map (some bm)) := H3.cells.2.1
  have d2 : W3.cell? ⟨gh, 2, none⟩ = some (.int .i64 (next + 1)) := H3.cells.2.2
  have HX := Lib.hid (And.intro H3 (And.intro K3 B3))
  clear H3 K3 B3 hM3 hg3 HH hM hN
  go_wp2_with fail
  refine start_ (n := 9) (S := (fun w' => w'.cell? ⟨gh, 1, none⟩ = some (.map (some bm)) ∧ w'.cell? ⟨gh, 2, none⟩ = some (.int .i64 (next + 1)))) (ds := ([] : List Nat)) #[false, false, false, false, false, false, false, false, false] (by kernel_rfl) rfl rfl (⟨c1, c2⟩) (fun hHeld => ?_)
  refine pure_ (i := 0) (N := some 24) (v := ?_) (a' := ?_) #[true, false, false, false, false, false, false, false, false] rfl rfl (by kernel_rfl) (fun _ _ _ h => h) (Or.inl ⟨by rfl, ?_⟩) ?_ ?_
  rotate_left
  · (intro w'; go_simp; with_reducible rfl)
  rotate_left
  · simp only [Act.put, List.setIfInBounds_toArray, List.set_cons_zero, List.set_cons_succ, i64_w, i32_w]
    rfl
  refine pure_ (i := 1) (N := some 25) (v := ?_) (a' := ?_) #[true, true, false, false, false, false, false, false, false] rfl rfl (by kernel_rfl) (fun _ _ _ h => h) (Or.inl ⟨by rfl, ?_⟩) ?_ ?_
  rotate_left
  · (intro w'; go_simp; with_reducible rfl)
  rotate_left
  · simp only [Act.put, List.setIfInBounds_toArray, List.set_cons_zero, List.set_cons_succ, i64_w, i32_w]
    rfl
  refine pure_ (i := 2) (N := some 26) (v := ?_) (a' := ?_) #[true, true, true, false, false, false, false, false, false] rfl rfl (by kernel_rfl) (fun _ _ _ h => h) (Or.inl ⟨by rfl, ?_⟩) ?_ ?_
  rotate_left
  · (intro w'; go_simp; with_reducible rfl)
  rotate_left
  · simp only [Act.put, List.setIfInBounds_toArray, List.set_cons_zero, List.set_cons_succ, i64_w, i32_w]
    rfl
  refine take_ (i := 3) (N := some 27) (v := ?_) (a' := ?_) #[true, true, true, true, false, false, false, false, false] rfl rfl (by kernel_rfl) (fun _ _ _ h => h) (Or.inl ⟨by rfl, ?_⟩) hHeld ?_ ?_
  rotate_left
  · rintro w' ⟨s0, s1⟩
    go_simp
    with_reducible rfl
  rotate_left
  · simp only [Act.put, List.setIfInBounds_toArray, List.set_cons_zero, List.set_cons_succ, i64_w, i32_w]
    rfl
  refine pure_ (i := 4) (N := some 28) (v := ?_) (a' := ?_) #[true, true, true, true, true, false, false, false, false] rfl rfl (by kernel_rfl) (fun _ _ _ h => h) (Or.inl ⟨by rfl, ?_⟩) ?_ ?_
  rotate_left
  · (intro w'; go_simp; with_reducible rfl)
  rotate_left
  · simp only [Act.put, List.setIfInBounds_toArray, List.set_cons_zero, List.set_cons_succ, i64_w, i32_w]
    rfl
  refine pure_ (i := 5) (N := some 29) (v := ?_) (a' := ?_) #[true, true, true, true, true, true, false, false, false] rfl rfl (by kernel_rfl) (fun _ _ _ h => h) (Or.inl ⟨by rfl, ?_⟩) ?_ ?_
  rotate_left
  · (intro w'; go_simp; with_reducible rfl)
  rotate_left
  · simp only [Act.put, List.setIfInBounds_toArray, List.set_cons_zero, List.set_cons_succ, i64_w, i32_w]
    rfl
  refine pure_ (i := 6) (N := some 30) (v := ?_) (a' := ?_) #[true, true, true, true, true, true, true, false, false] rfl rfl (by kernel_rfl) (fun _ _ _ h => h) (Or.inl ⟨by rfl, ?_⟩) ?_ ?_
  rotate_left
  · (intro w'; go_simp; with_reducible rfl)
  rotate_left
  · simp only [Act.put, List.setIfInBounds_toArray, List.set_cons_zero, List.set_cons_succ, i64_w, i32_w]
    rfl
  refine take_ (i := 7) (N := some 31) (v := ?_) (a' := ?_) #[true, true, true, true, true, true, true, true, false] rfl rfl (by kernel_rfl) (fun _ _ _ h => h) (Or.inl ⟨by rfl, ?_⟩) hHeld ?_ ?_
  rotate_left
  · rintro w' ⟨s0, s1⟩
    go_simp
    with_reducible rfl
  rotate_left
  · simp only [Act.put, List.setIfInBounds_toArray, List.set_cons_zero, List.set_cons_succ, i64_w, i32_w]
    rfl
  refine one_ (i := 8) (N := none) #[true, true, true, true, true, true, true, true, true] rfl rfl (by kernel_rfl) (by decide) (fun K hK => ?_)
  refine skip_ (by rfl) rfl (w1 := W3) (by go_simp; (try with_reducible rfl)) ?_
  refine hK.out _ _ ⟨d1, d2⟩ (fun hHeld => ?_)
  clear hK K
  refine done_ (by kernel_rfl) ?_
  clear c1 c2 hlay' hHeld
  have c1 : W3.drew.cell? ⟨gh, 0, none⟩ = some (.slice A evs.length c) := HX.out.1.cells.1
  have c2 : W3.drew.cell? ⟨gh, 2, none⟩ = some (.int .i64 (next + 1)) := HX.out.1.cells.2.2
  have a0 : W3.drew.cell? ⟨w.heap.size, 0, none⟩ = some (.int .i64 a.what) := blk_cell HX.out.2.2 0
  have a1 : W3.drew.cell? ⟨w.heap.size, 1, none⟩ = some (.int .i64 a.at_) := blk_cell HX.out.2.2 1
  have a2 : W3.drew.cell? ⟨w.heap.size, 2, none⟩ = some (.int .i64 a.len) := blk_cell HX.out.2.2 2
  have a3 : W3.drew.cell? ⟨w.heap.size, 3, none⟩ = some (.string a.data) := blk_cell HX.out.2.2 3
  have a4 : W3.drew.cell? ⟨w.heap.size, 4, none⟩ = some (.bool a.sure) := blk_cell HX.out.2.2 4
  clear d1 d2
  go_wp2_with fail
  have hbE := below_drew1 (Below.refl W3.heap.size W3)
  have hbE2 := below_alloc hbE (.cells #[.bool false, .int .i64 (next + 1), .int .i64 gate, .int .i64 a.what, .int .i64 a.at_, .int .i64 a.len, .string a.data, .bool a.sure, .int .i64 0, .string ⟨#[]⟩] 68)
  have H5 := HX.out.1.below hbE2
  have B5 := (hbE2.block _ (blk_lt HX.out.2.2)).trans HX.out.2.2
  have N5 := heap_alloc_new W3.drew (.cells #[.bool false, .int .i64 (next + 1), .int .i64 gate, .int .i64 a.what, .int .i64 a.at_, .int .i64 a.len, .string a.data, .bool a.sure, .int .i64 0, .string ⟨#[]⟩] 68)
  have e0 := H5.cells.1
  have e1 := H5.cells.2.2
  have e2 := (blk_cell B5 0).trans (show _ = some (Value.int .i64 a.what) from rfl)
  have e3 := (blk_cell B5 1).trans (show _ = some (Value.int .i64 a.at_) from rfl)
  have e4 := (blk_cell B5 2).trans (show _ = some (Value.int .i64 a.len) from rfl)
  have e5 := (blk_cell B5 3).trans (show _ = some (Value.string a.data) from rfl)
  have e6 := (blk_cell B5 4).trans (show _ = some (Value.bool a.sure) from rfl)
  have HE := Lib.hid (And.intro (And.intro e0 (And.intro e1 (And.intro e2 (And.intro e3 (And.intro e4 (And.intro e5 e6)))))) (And.intro H5 (And.intro B5 N5)))
  clear e0 e1 e2 e3 e4 e5 e6 H5 B5 N5 hbE hbE2
  refine start_ (n := 17) (S := (fun w' => w'.cell? ⟨gh, 0, none⟩ = some (.slice A evs.length c) ∧ w'.cell? ⟨gh, 2, none⟩ = some (.int .i64 (next + 1)) ∧ w'.cell? ⟨w.heap.size, 0, none⟩ = some (.int .i64 a.what) ∧ w'.cell? ⟨w.heap.size, 1, none⟩ = some (.int .i64 a.at_) ∧ w'.cell? ⟨w.heap.size, 2, none⟩ = some (.int .i64 a.len) ∧ w'.cell? ⟨w.heap.size, 3, none⟩ = some (.string a.data) ∧ w'.cell? ⟨w.heap.size, 4, none⟩ = some (.bool a.sure))) (ds := [16]) #[false, false, false, false, false, false, false, false, false, false, false, false, false, false, false, false, false] (by kernel_rfl) rfl rfl (⟨c1, c2, a0, a1, a2, a3, a4⟩) (fun hHeld => ?_)
  refine pure_ (i := 0) (N := some 32) (v := ?_) (a' := ?_) #[true, false, false, false, false, false, false, false, false, false, false, false, false, false, false, false, false] rfl rfl (by kernel_rfl) (fun _ _ _ h => h) (Or.inl ⟨by rfl, ?_⟩) ?_ ?_
  rotate_left
  · (intro w'; go_simp; with_reducible rfl)
  rotate_left
  · simp only [Act.put, List.setIfInBounds_toArray, List.set_cons_zero, List.set_cons_succ, i64_w, i32_w]
    rfl
  refine pure_ (i := 1) (N := some 33) (v := ?_) (a' := ?_) #[true, true, false, false, false, false, false, false, false, false, false, false, false, false, false, false, false] rfl rfl (by kernel_rfl) (fun _ _ _ h => h) (Or.inl ⟨by rfl, ?_⟩) ?_ ?_
  rotate_left
  · (intro w'; go_simp; with_reducible rfl)
  rotate_left
  · simp only [Act.put, List.setIfInBounds_toArray, List.set_cons_zero, List.set_cons_succ, i64_w, i32_w]
    rfl
  refine pure_ (i := 2) (N := some 34) (v := ?_) (a' := ?_) #[true, true, true, false, false, false, false, false, false, false, false, false, false, false, false, false, false] rfl rfl (by kernel_rfl) (fun _ _ _ h => h) (Or.inl ⟨by rfl, ?_⟩) ?_ ?_
  rotate_left
  · (intro w'; go_simp; with_reducible rfl)
  rotate_left
  · simp only [Act.put, List.setIfInBounds_toArray, List.set_cons_zero, List.set_cons_succ, i64_w, i32_w]
    rfl
  refine pure_ (i := 3) (N := some 35) (v := ?_) (a' := ?_) #[true, true, true, true, false, false, false, false, false, false, false, false, false, false, false, false, false] rfl rfl (by kernel_rfl) (fun _ _ _ h => h) (Or.inl ⟨by rfl, ?_⟩) ?_ ?_
  rotate_left
  · (intro w'; go_simp; with_reducible rfl)
  rotate_left
  · simp only [Act.put, List.setIfInBounds_toArray, List.set_cons_zero, List.set_cons_succ, i64_w, i32_w]
    rfl
  refine take_ (i := 4) (N := some 36) (v := ?_) (a' := ?_) #[true, true, true, true, true, false, false, false, false, false, false, false, false, false, false, false, false] rfl rfl (by kernel_rfl) (fun _ _ _ h => h) (Or.inl ⟨by rfl, ?_⟩) hHeld ?_ ?_
  rotate_left
  · rintro w' ⟨s0, s1, s2, s3, s4, s5, s6⟩
    go_simp
    with_reducible rfl
  rotate_left
  · simp only [Act.put, List.setIfInBounds_toArray, List.set_cons_zero, List.set_cons_succ, i64_w, i32_w]
    rfl
  refine pure_ (i := 5) (N := some 37) (v := ?_) (a' := ?_) #[true, true, true, true, true, true, false, false, false, false, false, false, false, false, false, false, false] rfl rfl (by kernel_rfl) (fun _ _ _ h => h) (Or.inl ⟨by rfl, ?_⟩) ?_ ?_
  rotate_left
  · (intro w'; go_simp; with_reducible rfl)
  rotate_left
  · simp only [Act.put, List.setIfInBounds_toArray, List.set_cons_zero, List.set_cons_succ, i64_w, i32_w]
    rfl
  refine pure_ (i := 6) (N := some 38) (v := ?_) (a' := ?_) #[true, true, true, true, true, true, true, false, false, false, false, false, false, false, false, false, false] rfl rfl (by kernel_rfl) (fun _ _ _ h => h) (Or.inl ⟨by rfl, ?_⟩) ?_ ?_
  rotate_left
  · (intro w'; go_simp; with_reducible rfl)
  rotate_left
  · simp only [Act.put, List.setIfInBounds_toArray, List.set_cons_zero, List.set_cons_succ, i64_w, i32_w]
    rfl
  refine pure_ (i := 7) (N := some 39) (v := ?_) (a' := ?_) #[true, true, true, true, true, true, true, true, false, false, false, false, false, false, false, false, false] rfl rfl (by kernel_rfl) (fun _ _ _ h => h) (Or.inl ⟨by rfl, ?_⟩) ?_ ?_
  rotate_left
  · (intro w'; go_simp; with_reducible rfl)
  rotate_left
  · simp only [Act.put, List.setIfInBounds_toArray, List.set_cons_zero, List.set_cons_succ, i64_w, i32_w]
    rfl
  refine take_ (i := 8) (N := some 40) (v := ?_) (a' := ?_) #[true, true, true, true, true, true, true, true, true, false, false, false, false, false, false, false, false] rfl rfl (by kernel_rfl) (fun _ _ _ h => h) (Or.inl ⟨by rfl, ?_⟩) hHeld ?_ ?_
  rotate_left
  · rintro w' ⟨s0, s1, s2, s3, s4, s5, s6⟩
    go_simp
    with_reducible rfl
  rotate_left
  · simp only [Act.put, List.setIfInBounds_toArray, List.set_cons_zero, List.set_cons_succ, i64_w, i32_w]
    rfl
  refine pure_ (i := 9) (N := some 41) (v := ?_) (a' := ?_) #[true, true, true, true, true, true, true, true, true, true, false, false, false, false, false, false, false] rfl rfl (by kernel_rfl) (fun _ _ _ h => h) (Or.inl ⟨by rfl, ?_⟩) ?_ ?_
  rotate_left
  · (intro w'; go_simp; with_reducible rfl)
  rotate_left
  · simp only [Act.put, List.setIfInBounds_toArray, List.set_cons_zero, List.set_cons_succ, i64_w, i32_w]
    rfl
  refine take_ (i := 10) (N := some 42) (v := ?_) (a' := ?_) #[true, true, true, true, true, true, true, true, true, true, true, false, false, false, false, false, false] rfl rfl (by kernel_rfl) (fun _ _ _ h => h) (Or.inl ⟨by rfl, ?_⟩) hHeld ?_ ?_
  rotate_left
  · rintro w' ⟨s0, s1, s2, s3, s4, s5, s6⟩
    go_simp
    with_reducible rfl
  rotate_left
  · simp only [Act.put, List.setIfInBounds_toArray, List.set_cons_zero, List.set_cons_succ, i64_w, i32_w]
    rfl
  refine pure_ (i := 11) (N := some 43) (v := ?_) (a' := ?_) #[true, true, true, true, true, true, true, true, true, true, true, true, false, false, false, false, false] rfl rfl (by kernel_rfl) (fun _ _ _ h => h) (Or.inl ⟨by rfl, ?_⟩) ?_ ?_
  rotate_left
  · (intro w'; go_simp; with_reducible rfl)
  rotate_left
  · simp only [Act.put, List.setIfInBounds_toArray, List.set_cons_zero, List.set_cons_succ, i64_w, i32_w]
    rfl
  refine one_ (i := 12) (N := some 44) #[true, true, true, true, true, true, true, true, true, true, true, true, true, false, false, false, false] rfl rfl (by kernel_rfl) (by decide) (fun K hK => ?_)
  refine event_step (v := .slice (some ⟨W3.heap.size, 0, none⟩) 1 1) (w1 := W3.drew.alloc (.cells #[.bool false, .int .i64 (next + 1), .int .i64 gate, .int .i64 a.what, .int .i64 a.at_, .int .i64 a.len, .string a.data, .bool a.sure, .int .i64 0, .string ⟨#[]⟩] 68)) (by rfl) (by go_simp; (try with_reducible rfl)) ?_
  refine hK.out _ _ HE.out.1 (fun hHeld2 => ?_)
  clear hK K hHeld
  refine norm_ (a' := ?_) ?_ ?_
  rotate_left
  · show Act.put _ (some 44) _ = _
    simp only [Act.put, List.setIfInBounds_toArray, List.set_cons_zero, List.set_cons_succ, i64_w, i32_w]
    rfl
  obtain ⟨hS6, H6, B6, N6⟩ := HE.out
  clear HE
  generalize hW6 : W3.drew.alloc (.cells #[.bool false, .int .i64 (next + 1), .int .i64 gate, .int .i64 a.what, .int .i64 a.at_, .int .i64 a.len, .string a.data, .bool a.sure, .int .i64 0, .string ⟨#[]⟩] 68) = W6 at *
  have K6 : KF w W6 F := by rw [← hW6]; exact HX.out.2.1.trans (KF.of (below_alloc (below_drew1 (Below.refl W3.heap.size W3)) _) F)
  obtain ⟨v', W7, hap, hown, hg7, h57⟩ := app_ev H6 ⟨false, next + 1, gate, a, 0, ⟨#[]⟩⟩ W3.heap.size (show W6.heap[W3.heap.size]? = _ from N6) (by omega)
  have G := H6.grow K6 HF.out.1 _ hown hg7 h57
  obtain ⟨A', c', rfl⟩ := own_slice hown
  generalize hn1 : (evs ++ [(⟨false, next + 1, gate, a, 0, ⟨#[]⟩⟩ : EvV)]).length = n1 at hap G hown h57
  have hgh7 := (hg7.block gh (H6.lt _ H6.fh) H6.ng).trans H6.h
  have hne6 : some w.heap.size ≠ (Value.slice A evs.length c).ownBlock := fun e => by have h1 := HF.out.2 _ e.symm; have h2 := HF.out.1 _ h1.1; omega
  have k0 := hg7.cell hS6.1 H6.ng
  have k1 := hg7.cell hS6.2.1 H6.ng
  have k2 := hg7.cell hS6.2.2.1 hne6
  have k3 := hg7.cell hS6.2.2.2.1 hne6
  have k4 := hg7.cell hS6.2.2.2.2.1 hne6
  have k5 := hg7.cell hS6.2.2.2.2.2.1 hne6
  have k6 := hg7.cell hS6.2.2.2.2.2.2 hne6
  have hfz := blk_frozen hgh7 0
  have HG := Lib.hid G
  have hS7 := Lib.hid (And.intro k0 (And.intro k1 (And.intro k2 (And.intro k3 (And.intro k4 (And.intro k5 k6))))))
  clear G hown hg7 h57 hgh7 hne6 k1 k2 k3 k4 k5 k6 hS6 H6 B6 N6 K6 hHeld2
  refine one_ (i := 13) (N := some 45) #[true, true, true, true, true, true, true, true, true, true, true, true, true, true, false, false, false] rfl rfl (by kernel_rfl) (by decide) (fun K hK => ?_)
  refine event_step (v := .slice A' n1 c') (w1 := W7) (by rfl) (append_event2 rfl rfl rfl hap) ?_
  refine hK.out _ _ hS7.out (fun hHeld3 => ?_)
  clear hK K
  refine norm_ (a' := ?_) ?_ ?_
  rotate_left
  · show Act.put _ (some 45) _ = _
    simp only [Act.put, List.setIfInBounds_toArray, List.set_cons_zero, List.set_cons_succ, i64_w, i32_w]
    rfl
  refine pure_ (i := 14) (N := some 46) (v := ?_) (a' := ?_) #[true, true, true, true, true, true, true, true, true, true, true, true, true, true, true, false, false] rfl rfl (by kernel_rfl) (fun _ _ _ h => h) (Or.inl ⟨by rfl, ?_⟩) ?_ ?_
  rotate_left
  · (intro w'; go_simp; with_reducible rfl)
  rotate_left
  · simp only [Act.put, List.setIfInBounds_toArray, List.set_cons_zero, List.set_cons_succ, i64_w, i32_w]
    rfl
  refine pure_ (i := 15) (N := some 47) (v := ?_) (a' := ?_) #[true, true, true, true, true, true, true, true, true, true, true, true, true, true, true, true, false] rfl rfl (by kernel_rfl) (fun _ _ _ h => h) (Or.inl ⟨by rfl, ?_⟩) ?_ ?_
  rotate_left
  · (intro w'; go_simp; with_reducible rfl)
  rotate_left
  · simp only [Act.put, List.setIfInBounds_toArray, List.set_cons_zero, List.set_cons_succ, i64_w, i32_w]
    rfl
  refine last_ (i := 16) (N := none) #[true, true, true, true, true, true, true, true, true, true, true, true, true, true, true, true, true] rfl rfl (by kernel_rfl) (by decide) (fun K hK => ?_)
  refine skip_ (w1 := ?_) (by rfl) rfl ?_ ?_
  rotate_left
  · go_simp
    rfl
  refine hK.out _ _ ?_
  clear hK K
  refine done_ (by kernel_rfl) ?_
  clear k0 hfz hap hHeld3
  generalize W7.setCell ⟨gh, 0, none⟩ (.slice A' n1 c') = W9 at *
  have z2 := HG.out.1.cells.2.2
  go_wp2
  go_ret
  exact ⟨_, _, rfl, HG.out.1, HG.out.2.1, HG.out.2.2⟩
end Go.Proofs.Ythldophikcgkcaa.Y
