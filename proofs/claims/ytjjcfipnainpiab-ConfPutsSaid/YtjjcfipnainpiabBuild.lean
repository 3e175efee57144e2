/- Contracts of strings.Builder's WriteByte, WriteString and String at a builder that the call itself made, with a frame that tells every block below a bound but the builder's own. -/
import Derived.Test.YtjjcfipnainpiabXShelf
import Derived.WalkKit
import Derived.BigCall
import Derived.Lib.AppendStr
import Derived.Laws.OwnMore
import Derived.Maps.AppendAt
import Derived.Lib.Hide
import Derived.Deep.OwnRows
namespace Go.Proofs.Ytjjcfipnainpiab.X
open Go.RowKit Go.Shelf Go.Proofs

/-- Every block below B but b is as it was; nothing else turned but memory. -/
structure KeptB (b B : Nat) (w w' : World) : Prop where
  os : w'.os = w.os
  tape : w'.tape = w.tape
  output : w'.output = w.output
  size : w.heap.size ≤ w'.heap.size
  block : ∀ k, k < B → k ≠ b → w'.heap[k]? = w.heap[k]?

theorem KeptB.refl (b B : Nat) (w : World) : KeptB b B w w := ⟨rfl, rfl, rfl, Nat.le_refl _, fun _ _ _ => rfl⟩
theorem KeptB.trans {b B : Nat} {w1 w2 w3 : World} (h : KeptB b B w1 w2) (k : KeptB b B w2 w3) : KeptB b B w1 w3 :=
  ⟨k.os.trans h.os, k.tape.trans h.tape, k.output.trans h.output, Nat.le_trans h.size k.size, fun i hi hb => (k.block i hi hb).trans (h.block i hi hb)⟩
theorem KeptB.below {b B B0 : Nat} {w0 w w' : World} (hb : Below B0 w0 w) (h : KeptB b B w w') (h1 : B0 ≤ b) (h2 : b < B) : Below B0 w0 w' :=
  ⟨h.os.trans hb.os, h.tape.trans hb.tape, h.output.trans hb.output, Nat.le_trans hb.size h.size, fun i hi => (h.block i (by omega) (by omega)).trans (hb.block i hi)⟩
theorem KeptB.drew {b B : Nat} {w w' : World} (h : KeptB b B w w') : KeptB b B w w'.drew := ⟨h.os, h.tape, h.output, h.size, h.block⟩
theorem KeptB.cell {b B : Nat} {w w' : World} (h : KeptB b B w w') (k j : Nat) (hk : k < B) (hb : k ≠ b) : w'.cell? ⟨k, j, none⟩ = w.cell? ⟨k, j, none⟩ := by
  simp [World.cell?, h.block k hk hb]

/-- A builder in block b whose buffer, if it has one, lies from B on; it holds the cells l; 'String' was not asked yet. -/
def Bld (b B : Nat) (l : List Value) (w : World) : Prop :=
  b < B ∧ ∃ p v, w.heap[b]? = some (.cells #[p, v] 125 (0, 0)) ∧ (p = .pointer none ∨ p = .pointer (some ⟨b, 0, none⟩)) ∧ w.ownsRow B 5 1 v l.length l

theorem ownsRow_weak {w : World} {B B' : Nat} {e : TypeId} {size n : Nat} {v : Value} {xs : List Value} (h : w.ownsRow B e size v n xs) (hB : B' ≤ B) : w.ownsRow B' e size v n xs := by
  refine ⟨h.1, ?_⟩
  rcases h.2 with h2 | ⟨g, cap, cur, hv, hb, hr⟩
  · exact .inl h2
  · exact .inr ⟨g, cap, cur, hv, Nat.le_trans hB hb, hr⟩
theorem ownsRow_block {w : World} {B : Nat} {e : TypeId} {size n : Nat} {v : Value} {xs : List Value} (h : w.ownsRow B e size v n xs) : ∀ k, v.ownBlock = some k → B ≤ k ∧ k < w.heap.size := by
  intro k hk
  rcases h.2 with ⟨rfl, _⟩ | ⟨g, cap, cur, rfl, hb, hg, _⟩
  · simp [Value.ownBlock] at hk
  · have : g = k := by simpa [Value.ownBlock] using hk
    subst this
    exact ⟨hb, (Array.getElem?_eq_some_iff.1 hg).1⟩

theorem ownsRow_slice {w : World} {B : Nat} {e : TypeId} {size n : Nat} {v : Value} {xs : List Value} (h : w.ownsRow B e size v n xs) : ∃ ao n' cap, v = .slice ao n' cap := by
  rcases h.2 with ⟨rfl, _⟩ | ⟨g, cap, cur, rfl, _⟩
  · exact ⟨_, _, _, rfl⟩
  · exact ⟨_, _, _, rfl⟩

theorem Bld.isBuilder {b B B' : Nat} {l : List Value} {w : World} (h : Bld b B l w) (hB : B' ≤ b) : Lib.IsBuilder 125 5 B' b l w := by
  obtain ⟨hlt, p, v, hb, hp, ho⟩ := h
  have hne : v.ownBlock ≠ some b := fun e => by have := ownsRow_block ho b e; omega
  rcases hp with rfl | rfl
  · exact .inl ⟨hB, v, hb, ownsRow_weak ho (by omega), hne⟩
  · exact .inr ⟨hB, v, hb, ownsRow_weak ho (by omega), hne⟩

/-- A new builder, in the newest block but what was laid behind it. -/
theorem Bld.new {b B : Nat} {w : World} (hb : w.heap[b]? = some (.cells #[.pointer none, .slice none 0 0] 125 (0, 0))) (hB : b < B) : Bld b B [] w :=
  ⟨hB, _, _, hb, .inl rfl, by simp, .inl ⟨rfl, rfl⟩⟩
theorem Bld.of_grown {b B : Nat} {l : List Value} {w w' : World} (h : Bld b B l w) (hg : w.grownBy w' none) : Bld b B l w' := by
  obtain ⟨hlt, p, v, hb, hp, ho⟩ := h
  exact ⟨hlt, p, v, (hg.block b (Array.getElem?_eq_some_iff.1 hb).1 (by simp)).trans hb, hp, ho.kept hg (by cases v.ownBlock <;> simp)⟩

set_option maxHeartbeats 2000000 in
set_option maxRecDepth 100000 in
/-- copyCheck, whichever way. -/
theorem copyCheck_b (b B : Nat) (l : List Value) (w : World) (h : Bld b B l w) :
    Calls Try.prog 104 #[.pointer (some ⟨b, 0, none⟩)] w fun e w' => e = .returned (.tuple #[]) ∧ (∃ v, w'.heap[b]? = some (.cells #[.pointer (some ⟨b, 0, none⟩), v] 125 (0, 0)) ∧ w'.ownsRow B 5 1 v l.length l) ∧ KeptB b B w w' := by
  obtain ⟨hlt, p, v, hb, hp, ho⟩ := h
  rcases hp with rfl | rfl
  · have c0 : w.cell? ⟨b, 0, none⟩ = some (.pointer none) := by rw [Lib.cell_of_heap hb]; rfl
    refine (Any.Builder_copyCheck_fresh lays_n240 extra.toX72 b w c0 (by simp [World.shape?, hb]; rfl) (Lib.frozen_of_heap hb 0)).mono ?_
    rintro e w' ⟨rfl, rfl⟩
    refine ⟨rfl, ⟨v, ?_, ?_⟩, rfl, rfl, rfl, by simp [World.setCell], fun k hk hne => Below.heap_setCell _ _ _ _ hne⟩
    · simp [World.setCell, Array.getElem?_modify, hb]
    · refine ho.kept (row := some b) ⟨rfl, rfl, rfl, by simp [World.setCell], fun k _ hk => Below.heap_setCell _ _ _ _ (fun e => hk (by simp [e]))⟩ ?_
      exact .inr fun e => by have := ownsRow_block ho b e; omega
  · have c0 : w.cell? ⟨b, 0, none⟩ = some (.pointer (some ⟨b, 0, none⟩)) := by rw [Lib.cell_of_heap hb]; rfl
    refine (Any.Builder_copyCheck_used lays_n240 extra.toX72 b w c0).mono ?_
    rintro e w' ⟨rfl, rfl⟩
    exact ⟨rfl, ⟨v, hb, ho⟩, KeptB.refl _ _ _⟩

theorem put_b {b B : Nat} {l l' : List Value} {w w1 w2 : World} {v v' : Value} (hlt : b < B) (ho : w1.ownsRow B 5 1 v l.length l) (k1 : KeptB b B w w1) (hBw : B ≤ w1.heap.size)
    (hg : w1.grownBy w2 v.ownBlock) (hb : w2.heap[b]? = some (.cells #[.pointer (some ⟨b, 0, none⟩), v] 125 (0, 0))) (ho' : w2.ownsRow B 5 1 v' l'.length l') :
    Bld b B l' (w2.setCell ⟨b, 1, none⟩ v') ∧ KeptB b B w (w2.setCell ⟨b, 1, none⟩ v') := by
  refine ⟨⟨hlt, .pointer (some ⟨b, 0, none⟩), v', ?_, .inr rfl, ?_⟩, ?_⟩
  · simp [World.setCell, Array.getElem?_modify, hb]
  · refine ho'.kept (row := some b) ⟨rfl, rfl, rfl, by simp [World.setCell], fun k _ hk => Below.heap_setCell _ _ _ _ (fun e => hk (by simp [e]))⟩ ?_
    exact .inr fun e => by have := ownsRow_block ho' b e; omega
  · refine k1.trans ⟨hg.os, hg.tape, hg.output, by simpa [World.setCell] using hg.size, fun k hk hne => (Below.heap_setCell _ _ _ _ hne).trans (hg.block k (by omega) fun e => ?_)⟩
    have := ownsRow_block ho k e.symm
    omega

set_option maxHeartbeats 2000000 in
set_option maxRecDepth 100000 in
theorem WriteByte_b (b B : Nat) (l : List Value) (c : Int) (w : World) (h : Bld b B l w) (hlen : l.length + 1 ≤ 140737488355328) (hBw : B ≤ w.heap.size) :
    Calls Try.prog 106 #[.pointer (some ⟨b, 0, none⟩), .int .u8 c] w fun e w' => e = .returned .nilIface ∧ Bld b B (l ++ [.int .u8 c]) w' ∧ KeptB b B w w' := by
  obtain ⟨i0, hi, hz0, hz1, hz2⟩ := info_parts extra.infoByte
  have hltB := h.1
  go_enter Try.func106, Try.ntmps106
  go_wp2_with (go_at_call 104; refine (copyCheck_b b B l _ h).mono ?_)
  rintro e w1 ⟨rfl, ⟨v, hbk, hown⟩, hk1⟩
  have c0 : w1.cell? ⟨b, 0, none⟩ = some (.pointer (some ⟨b, 0, none⟩)) := by rw [Lib.cell_of_heap hbk]; rfl
  have c1 : w1.cell? ⟨b, 1, none⟩ = some v := by rw [Lib.cell_of_heap hbk]; rfl
  go_wp2_with (at_builtin; refine wpList_append_own _ rfl _ _ 108 rfl B 5 i0 (.int .u8 0) 1 1 Try.underlying108 hi hz0 hz1 hz2 rfl (by decide) _ _ _ rfl (hown.alloc _) ⟨w1.heap.size, 0, none⟩ 1 1 [.int .u8 c] rfl rfl ?c1 ?c2 ?c3 ?c4 ?c5 ?_)
  case c1 =>
    intro j u hj
    match j, hj with
    | 0, hj => simp at hj; subst hj; simp [Addr.add]
  case c2 => intro u hu; simp at hu; subst hu; rfl
  case c3 => unfold maxLen; omega
  case c4 => omega
  case c5 => have := hk1.size; simp; omega
  intro v' w2 hown' hgrow _
  have hlt : b < w1.heap.size := (Array.getElem?_eq_some_iff.1 hbk).1
  have hg2 : w1.grownBy w2 v.ownBlock := World.grownBy.trans (World.grownBy_alloc w1 _ _) hgrow
  have hb2 : w2.heap[b]? = some (.cells #[.pointer (some ⟨b, 0, none⟩), v] 125 (0, 0)) := by
    rw [hg2.block b hlt (fun e => by have := ownsRow_block hown b e.symm; omega)]
    exact hbk
  have d0 : w2.cell? ⟨b, 0, none⟩ = some (.pointer (some ⟨b, 0, none⟩)) := by rw [Lib.cell_of_heap hb2]; rfl
  have d1 : w2.cell? ⟨b, 1, none⟩ = some v := by rw [Lib.cell_of_heap hb2]; rfl
  have f1 : w2.frozen? ⟨b, 1, none⟩ = false := Lib.frozen_of_heap hb2 1
  have hp := put_b (l' := l ++ [.int .u8 c]) hltB hown hk1 (Nat.le_trans hBw hk1.size) hg2 hb2 (v' := v') (by simpa using hown')
  obtain ⟨ao, n', cap, rfl⟩ := ownsRow_slice hown'
  clear hown' hgrow hg2
  have HP := Lib.hid hp; clear hp
  go_wp2
  go_ret
  exact ⟨rfl, HP.out.1, HP.out.2⟩

set_option maxHeartbeats 2000000 in
set_option maxRecDepth 100000 in
theorem WriteString_b (b B : Nat) (l : List Value) (s : ByteArray) (w : World) (h : Bld b B l w) (hlen : l.length + s.size ≤ 140737488355328) (hBw : B ≤ w.heap.size) :
    Calls Try.prog 89 #[.pointer (some ⟨b, 0, none⟩), .string s] w fun e w' => e = .returned (.tuple #[.int .i64 s.size, .nilIface]) ∧ Bld b B (l ++ Lib.strCells s) w' ∧ KeptB b B w w' := by
  obtain ⟨i0, hi, hz0, hz1, hz2⟩ := info_parts extra.infoByte
  have hltB := h.1
  go_enter Try.func89, Try.ntmps89
  go_wp2_with (go_at_call 104; refine (copyCheck_b b B l _ h).mono ?_)
  rintro e w1 ⟨rfl, ⟨v, hbk, hown⟩, hk1⟩
  have c0 : w1.cell? ⟨b, 0, none⟩ = some (.pointer (some ⟨b, 0, none⟩)) := by rw [Lib.cell_of_heap hbk]; rfl
  have c1 : w1.cell? ⟨b, 1, none⟩ = some v := by rw [Lib.cell_of_heap hbk]; rfl
  go_wp2_with (at_builtin; refine Lib.wpList_append_own_string _ rfl _ _ 108 9 rfl B 5 i0 Try.underlying108 Try.underlying9 hi hz0 hz1 hz2 _ _ _ rfl hown s rfl ?c3 ?c4 ?c5 ?_)
  case c3 => unfold maxLen; omega
  case c4 => omega
  case c5 => have := hk1.size; omega
  intro v' w2 hown' hgrow _
  have hlt : b < w1.heap.size := (Array.getElem?_eq_some_iff.1 hbk).1
  have hb2 : w2.heap[b]? = some (.cells #[.pointer (some ⟨b, 0, none⟩), v] 125 (0, 0)) := by
    rw [hgrow.block b hlt (fun e => by have := ownsRow_block hown b e.symm; omega)]
    exact hbk
  have d0 : w2.cell? ⟨b, 0, none⟩ = some (.pointer (some ⟨b, 0, none⟩)) := by rw [Lib.cell_of_heap hb2]; rfl
  have d1 : w2.cell? ⟨b, 1, none⟩ = some v := by rw [Lib.cell_of_heap hb2]; rfl
  have f1 : w2.frozen? ⟨b, 1, none⟩ = false := Lib.frozen_of_heap hb2 1
  have hp := put_b (l' := l ++ Lib.strCells s) hltB hown hk1 (Nat.le_trans hBw hk1.size) hgrow hb2 (v' := v') (by simpa [Lib.strCells_length] using hown')
  obtain ⟨ao, n', cap, rfl⟩ := ownsRow_slice hown'
  clear hown' hgrow
  have HP := Lib.hid hp; clear hp
  go_wp2
  go_ret2
  exact ⟨rfl, HP.out.1, HP.out.2⟩

/-- String: the bytes; what was there below the builder is as it was. -/
theorem String_b (b B B' : Nat) (l : List UInt8) (w : World) (h : Bld b B (Lib.byteCells l) w) (hB : B' ≤ b) :
    Calls Try.prog 91 #[.pointer (some ⟨b, 0, none⟩)] w fun e w' => e = .returned (.string ⟨l.toArray⟩) ∧ Below B' w w' := by
  have hlt : b < w.heap.size := by
    obtain ⟨_, p, v, hb, _⟩ := h
    exact (Array.getElem?_eq_some_iff.1 hb).1
  refine (Any.Builder_String_any_k lays_n169 extra B' b l w (Lib.IsBuilderF.of (h.isBuilder hB)) (by omega)).mono ?_
  rintro e w' ⟨he, _, hb, _⟩
  exact ⟨he, hb⟩
end Go.Proofs.Ytjjcfipnainpiab.X
