/- A map that leads from each key that is there to 'true': looked up, and a key laid. -/
import Derived.Maps.OwnOps
import Derived.DeepKeys4
import Derived.Below
import Derived.RowKit
import Derived.Test.YthldophikcgkcaaProg
namespace Go.Proofs.Ythldophikcgkcaa.Y
set_option linter.unusedVariables false
set_option linter.unusedSimpArgs false
open Go Go.RowKit Go.Maps Go.MapKept Go.ChangeMaps

/-- Block b is a map whose keys are just those for which S, each with 'true'. -/
def MapIs {α : Type} (P : Program) (k : TypeId) (enc : α → Value) (w : World) (b : Nat) (S : α → Prop) : Prop :=
  ∃ es clock, w.heap[b]? = some (.map es clock) ∧ (∀ e ∈ es.toList, (∃ l, keyOf P k e.key = some l) ∧ (∃ x, S x ∧ e.key = enc x) ∧ e.val = .bool true) ∧ ∀ x, S x → ∃ e ∈ es.toList, e.key = enc x
section
variable {α : Type} {P : Program} {k : TypeId} {enc : α → Value} {w : World} {b : Nat} {S : α → Prop}
theorem MapIs.lt (h : MapIs P k enc w b S) : b < w.heap.size := by
  obtain ⟨es, clock, hb, _⟩ := h
  exact (Array.getElem?_eq_some_iff.1 hb).1
theorem MapIs.same {w' : World} (h : MapIs P k enc w b S) (he : w'.heap[b]? = w.heap[b]?) : MapIs P k enc w' b S := by
  obtain ⟨es, clock, hb, h1, h2⟩ := h
  exact ⟨es, clock, he.trans hb, h1, h2⟩
theorem MapIs.made (w : World) (P : Program) (k : TypeId) (enc : α → Value) : MapIs P k enc (w.alloc (.map #[] 0)) w.heap.size (fun _ => False) :=
  ⟨#[], 0, (MapKept.heap_alloc w _).1, by simp, by simp⟩
theorem MapIs.look {t e : TypeId} (h : MapIs P k enc w b S) (K : Keyed P k) (ht : P.underlying t = some (.map k e)) (hz : (zeroValue e).run P w = .ok (.bool false) w) (inj : ∀ x y, enc x = enc y → x = y) (x : α) (hkey : ∃ l, keyOf P k (enc x) = some l) :
    ∃ r : Bool, (Instr.lookup t (.map (some b)) (enc x) false).run P w = .ok (.bool r) w ∧ (r = true ↔ S x) := by
  obtain ⟨es, clock, hb, h1, h2⟩ := h
  obtain ⟨l, hkey⟩ := hkey
  rcases K.find w hkey es.toList (fun e he => (h1 e he).1) with ⟨f1, f2⟩ | ⟨j, e0, f1, f2, f3⟩
  · refine ⟨false, by simp [Instr.lookup, run_underlying ht, MapKept.run_getObj_map hb, K.check w _ hkey, f1, hz, Result.andThen], ?_⟩
    constructor
    · intro h; exact absurd h (by decide)
    · intro hs
      obtain ⟨e, he, hk⟩ := h2 x hs
      exact absurd hk (f2 e he)
  · have hm0 : e0 ∈ es.toList := List.mem_of_getElem? f2
    have hv := (h1 e0 hm0).2.2
    refine ⟨true, by simp [Instr.lookup, run_underlying ht, MapKept.run_getObj_map hb, K.check w _ hkey, f1, hv, Result.andThen], ?_⟩
    constructor
    · intro _
      obtain ⟨y, hy, he⟩ := (h1 e0 hm0).2.1
      rw [f3] at he
      rw [inj _ _ he]
      exact hy
    · intro _; rfl
theorem MapIs.lay {t e : TypeId} (h : MapIs P k enc w b S) (K : Keyed P k) (ht : P.underlying t = some (.map k e)) (x : α) (hkey : ∃ l, keyOf P k (enc x) = some l) (inj : ∀ x y, enc x = enc y → x = y) (hn : ¬ S x) :
    ∃ w', (Instr.mapUpdate t (.map (some b)) (enc x) (.bool true)).run P w = .ok () w' ∧ MapIs P k enc w' b (fun y => S y ∨ y = x) ∧ w'.heap.size = w.heap.size ∧ (∀ j, j ≠ b → w'.heap[j]? = w.heap[j]?) ∧ ∀ n, n ≤ b → Below n w w' := by
  obtain ⟨es, clock, hb, h1, h2⟩ := h
  obtain ⟨l, hkey⟩ := hkey
  rcases K.find w hkey es.toList (fun e he => (h1 e he).1) with ⟨f1, f2⟩ | ⟨j, e0, f1, f2, f3⟩
  · have hlt : b < w.heap.size := (Array.getElem?_eq_some_iff.1 hb).1
    have hoth : ∀ j, j ≠ b → (setBlock w b (.map (es.push ⟨enc x, .bool true, clock⟩) (clock + 1))).heap[j]? = w.heap[j]? := by
      intro j hj
      simp [setBlock, Array.getElem?_modify, Ne.symm hj, Array.getElem?_setIfInBounds]
    have hsz : (setBlock w b (.map (es.push ⟨enc x, .bool true, clock⟩) (clock + 1))).heap.size = w.heap.size := by simp [setBlock]
    refine ⟨setBlock w b (.map (es.push ⟨enc x, .bool true, clock⟩) (clock + 1)), ?_, ?_, hsz, hoth, ?_⟩
    · simp [Instr.mapUpdate, run_underlying ht, MapKept.run_getObj_map hb, K.check w false hkey, f1, MapKept.run_setObj_map _ hb, Result.andThen, setBlock]
    · refine ⟨es.push ⟨enc x, .bool true, clock⟩, clock + 1, by simp [setBlock, hlt], ?_, ?_⟩
      · intro e he
        rw [Array.toList_push, List.mem_append, List.mem_singleton] at he
        rcases he with he | rfl
        · obtain ⟨a1, ⟨y, a2, a3⟩, a4⟩ := h1 e he
          exact ⟨a1, ⟨y, Or.inl a2, a3⟩, a4⟩
        · exact ⟨⟨l, hkey⟩, ⟨x, Or.inr rfl, rfl⟩, rfl⟩
      · intro y hy
        rw [Array.toList_push]
        rcases hy with hy | rfl
        · obtain ⟨e, he, hk⟩ := h2 y hy
          exact ⟨e, List.mem_append_left _ he, hk⟩
        · exact ⟨_, List.mem_append_right _ (List.mem_singleton.2 rfl), rfl⟩
    · intro n hn2
      exact ⟨rfl, rfl, rfl, by rw [hsz]; exact Nat.le_refl _, fun j hj => hoth j (by omega)⟩
  · have hm0 : e0 ∈ es.toList := List.mem_of_getElem? f2
    obtain ⟨y, hy, he⟩ := (h1 e0 hm0).2.1
    rw [f3] at he
    exact absurd (by rw [inj _ _ he]; exact hy) hn
end
theorem wpList_lookup_set {α : Type} {P : Program} {k : TypeId} {enc : α → Value} {b : Nat} {S : α → Prop} (w : World) {ops : Array Oper} {rest : List Oper} {o : Oper} {a : Act} {Q : Exit → Act → World → Prop}
    (hg : o.guard = none) (m x : Operand) (t : TypeId) (hop : o.op = Op.lookup t m x false) (e : TypeId) (K : Keyed P k) (ht : P.underlying t = some (.map k e)) (hz : (zeroValue e).run P w = .ok (.bool false) w) (inj : ∀ x y, enc x = enc y → x = y)
    (hm : a.eval m = .map (some b)) (h : MapIs P k enc w b S) (x0 : α) (hx : a.eval x = enc x0) (hkey : ∃ l, keyOf P k (enc x0) = some l)
    (hK : ∀ r : Bool, (r = true ↔ S x0) → wpList P ops Q rest (a.put o.dst (.bool r)) w) :
    wpList P ops Q (o :: rest) a w := by
  refine wpList_plain hg fun K' hK' => ?_
  obtain ⟨r, hrun, hr⟩ := h.look K ht hz inj x0 hkey
  unfold Oper.wp
  simp [execOp, hop, hm, hx, hrun, Result.andThen]
  exact hK' _ _ (hK r hr)
theorem wpList_mapUpdate_set {α : Type} {P : Program} {k : TypeId} {enc : α → Value} {b : Nat} {S : α → Prop} (w : World) {ops : Array Oper} {rest : List Oper} {o : Oper} {a : Act} {Q : Exit → Act → World → Prop}
    (hg : o.guard = none) (m x v : Operand) (t : TypeId) (hop : o.op = Op.mapUpdate t m x v) (e : TypeId) (K : Keyed P k) (ht : P.underlying t = some (.map k e))
    (inj : ∀ x y, enc x = enc y → x = y) (hm : a.eval m = .map (some b)) (h : MapIs P k enc w b S) (x0 : α) (hx : a.eval x = enc x0) (hv : a.eval v = .bool true) (hkey : ∃ l, keyOf P k (enc x0) = some l) (hn : ¬ S x0)
    (hK : ∀ w', MapIs P k enc w' b (fun y => S y ∨ y = x0) → w'.heap.size = w.heap.size → (∀ j, j ≠ b → w'.heap[j]? = w.heap[j]?) → (∀ n, n ≤ b → Below n w w') → wpList P ops Q rest (a.put o.dst undef) w') :
    wpList P ops Q (o :: rest) a w := by
  refine wpList_plain hg fun K' hK' => ?_
  obtain ⟨w', hrun, r1, r2, r3, r4⟩ := h.lay K ht x0 hkey inj hn
  unfold Oper.wp
  simp [execOp, hop, hm, hx, hv, hrun, Result.andThen]
  exact hK' _ _ (hK w' r1 r2 r3 r4)
theorem laid : Go.laidOutB Try.prog = true := by kernel_rfl
theorem ptRow : (92 : TypeId) < Try.prog.types.size := of_decide_eq_true (by kernel_rfl)
theorem ptWide : (match Try.prog.underlying 92 with | some (.array _ _) | some (.struct _) => true | _ => false) = true := by kernel_rfl
set_option maxRecDepth 100000 in
theorem ptLaw : Keyed Try.prog 92 := Keyed.of_law (deep_law_laid laid (m := 3) (by omega) ptRow (by kernel_rfl) ptWide)
theorem cells92 : Try.prog.cellsOf 92 = 2 := by kernel_rfl
theorem cells3 : Try.prog.cellsOf 3 = 1 := by kernel_rfl
theorem cells9 : Try.prog.cellsOf 9 = 1 := by kernel_rfl
theorem ptKey : Try.prog.keyType 92 = true := by kernel_rfl
set_option maxRecDepth 100000 in
theorem ptKeyOf (a : Int) (s : ByteArray) (ha : (Lit.int .i64 a).wf = true) (hs : s.size ≤ maxLen) : ∃ l, keyOf Try.prog 92 (.agg #[.int .i64 a, .string s]) = some l := by
  unfold keyOf
  rw [Try.underlying92]
  simp only [ptKey]
  have hf : Value.formed Try.prog 92 (Value.agg #[Value.int IntKind.i64 a, Value.string s]) = true := by
    simp [Value.formed, Try.underlying92, cells92]
  have h92 : (92 : Nat) < Try.prog.types.size := ptRow
  obtain ⟨n, hn⟩ : ∃ n, Try.prog.types.size = n + 1 := ⟨Try.prog.types.size - 1, by omega⟩
  rw [hf, hn]
  simp [Program.keyLits, Try.underlying92, Try.underlying3, Try.underlying9, cells92, cells3, cells9, Value.cells, ha, hs]
/-- A point as a key: what is done, and the value. -/
def encP (p : Nat × ByteArray) : Value := .agg #[.int .i64 (p.1 : Int), .string p.2]
theorem encP_inj : ∀ p q, encP p = encP q → p = q := by
  rintro ⟨a, s⟩ ⟨b, t⟩ h
  simp only [encP, Value.agg.injEq, Array.mk.injEq, List.cons.injEq, Value.int.injEq, Value.string.injEq, and_true, true_and] at h
  obtain ⟨h1, h2⟩ := h
  have h3 : a = b := by omega
  rw [h3, h2]
theorem zero_false (w : World) : (zeroValue 4).run Try.prog w = .ok (.bool false) w := by kernel_rfl
theorem keyP (a : Nat) (s : ByteArray) (ha : a < 2 ^ 40) (hs : s.size ≤ 1000) : ∃ l, keyOf Try.prog 92 (encP (a, s)) = some l := by
  refine ptKeyOf (a : Int) s ?_ (by unfold maxLen; omega)
  have e1 : IntKind.i64.min = -9223372036854775808 := by decide
  have e2 : IntKind.i64.max = 9223372036854775807 := by decide
  simp [Lit.wf, e1, e2]
  omega
end Go.Proofs.Ythldophikcgkcaa.Y
