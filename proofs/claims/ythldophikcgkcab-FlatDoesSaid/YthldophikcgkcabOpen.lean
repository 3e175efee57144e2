/- What came in, read as data, told in the print's kinds: numbers, bools, strings, slices, structs, arrays, nested as they like. -/
import Derived.Test.YthldophikcgkcabWMore
import Derived.Test.YthldophikcgkcabWArr
import Derived.Deep.Slices
import Derived.OpenShut
import Derived.DataReads
namespace Go.Proofs.Ythldophikcgkcab.X
open Go.RowKit Go.Proofs.YthldophikcgkcabW.PrintWords Go.Proofs.YthldophikcgkcabW.PrintLast Go.Proofs.YthldophikcgkcabW.PrintMore Go.Deep Go.WideShapes Go.ChangeShapes

/-- Whatever reads at type t is of kind d, and meets Wf. -/
def Opens {α : Type} (P : Program) (t : TypeId) (d : Kd α) (Wf : α → Prop) : Prop :=
  ∀ (H : Type) (enc : TypeId × Value → H) (w : World) (base : Nat) (spare : Nat → Bool) (held : Bool) (fuel : Nat) (cs : List Value) (y : DataW H × List MemPlace),
    DataW.trod enc P w base spare held fuel t cs = some y → ∃ x, d.K w x cs ∧ Wf x
theorem Opens.mono {α : Type} {P : Program} {t : TypeId} {d : Kd α} {Wf Wf' : α → Prop} (h : Opens P t d Wf) (hw : ∀ x, Wf x → Wf' x) : Opens P t d Wf' := by
  intro H enc w base spare held fuel cs y hy
  obtain ⟨x, hk, hx⟩ := h H enc w base spare held fuel cs y hy
  exact ⟨x, hk, hw x hx⟩
theorem opens_int {P : Program} {t : TypeId} {k : IntKind} (hu : P.underlying t = some (.int k)) : Opens P t (Kd.int k) (fun n => (Lit.int k n).wf = true) := by
  intro H enc w base spare held fuel cs y hy
  obtain ⟨n, rfl, _, hn⟩ := DataW.trod_int hu hy
  exact ⟨n, rfl, hn⟩
theorem opens_bool {P : Program} {t : TypeId} (hu : P.underlying t = some .bool) : Opens P t Kd.bool (fun _ => True) := by
  intro H enc w base spare held fuel cs y hy
  obtain ⟨b, rfl, _⟩ := DataW.trod_bool hu hy
  exact ⟨b, rfl, trivial⟩
theorem opens_string {P : Program} {t : TypeId} (hu : P.underlying t = some .string) : Opens P t Kd.string (fun s => s.size ≤ 9223372036854775807) := by
  intro H enc w base spare held fuel cs y hy
  obtain ⟨s, rfl, _, hs⟩ := DataW.trod_string hu hy
  exact ⟨s, rfl, hs⟩

theorem opens_slice {α : Type} [Inhabited α] {P : Program} {t e : TypeId} {d : Kd α} {Wf : α → Prop} (hu : P.underlying t = some (.slice e)) (hc : P.cellsOf e = d.sz) (h : Opens P e d Wf) :
    Opens P t (Kd.slice e d) (fun xs => xs.length ≤ 9223372036854775807 ∧ ∀ x ∈ xs, Wf x) := by
  intro H enc w base spare held fuel cs y hy
  rcases open_slice hu hy with ⟨rfl, _⟩ | ⟨a, len, cap, m, n, D, Pl, rfl, hb, hl, hcap, hm, _, hel⟩
  · exact ⟨[], ⟨none, 0, rfl, Nat.le_refl _, rfl, by simp, fun h => absurd h (by simp)⟩, by simp, by simp⟩
  · have hlm : len ≤ m := by rw [hm]; split <;> omega
    have hcap' : cap ≤ 9223372036854775807 := hcap
    have each : ∀ i, i < len → ∃ x, ∃ cs', w.cells? base (a.add (i * P.cellsOf e)) (P.cellsOf e) = some cs' ∧ d.K w x cs' ∧ Wf x := by
      intro i hi
      obtain ⟨cs', h1, h2⟩ := hel i (by omega)
      obtain ⟨x, hx, hw⟩ := h H enc w base spare held n cs' _ h2
      exact ⟨x, cs', h1, hx, hw⟩
    obtain ⟨f, hf⟩ := choose_lt each
    have hlen : ((List.range len).map f).length = len := by simp
    refine ⟨(List.range len).map f, ⟨some a, cap, by rw [hlen], by rw [hlen]; exact hl, ?_⟩, by rw [hlen]; omega, ?_⟩
    · refine ⟨rfl, by rw [hlen]; omega, fun _ => ⟨a, rfl, fun j p hj => ?_⟩⟩
      have hj' : j < len := by have := (List.getElem?_eq_some_iff.1 hj).1; simpa using this
      have hp : f j = p := by
        rw [List.getElem?_map, List.getElem?_range hj'] at hj
        simpa using hj
      obtain ⟨cs', h1, hK, _⟩ := hf j hj'
      obtain ⟨_, h3, h4⟩ := World.cells?_some h1
      subst hp
      refine ⟨cs', by rw [h3, hc], hK, fun i u hu' => ?_⟩
      have hi : i < cs'.length := (List.getElem?_eq_some_iff.1 hu').1
      have := h4 i (by omega)
      rw [Deep.add_add, hc] at this
      rw [this]
      exact hu'
    · intro x hx
      obtain ⟨i, hi, rfl⟩ := List.mem_map.1 hx
      obtain ⟨_, _, _, hw⟩ := hf i (by simpa using hi)
      exact hw

/-- The fields of a struct from cell o on, of kind d. -/
def OpensF {α : Type} (P : Program) (fs : List Field) (o : Nat) (d : Kd α) (Wf : α → Prop) : Prop :=
  ∀ (H : Type) (enc : TypeId × Value → H) (w : World) (base : Nat) (spare : Nat → Bool) (held : Bool) (fuel : Nat) (cs : List Value), cs.length = o + d.sz →
    (∀ f ∈ fs, ∃ y, DataW.trod enc P w base spare held fuel f.type ((cs.drop f.offset).take (P.cellsOf f.type)) = some y) → ∃ x, d.K w x (cs.drop o) ∧ Wf x
theorem opensF_one {α : Type} {P : Program} {f : Field} {d : Kd α} {Wf : α → Prop} (hc : P.cellsOf f.type = d.sz) (h : Opens P f.type d Wf) : OpensF P [f] f.offset d Wf := by
  intro H enc w base spare held fuel cs hl hy
  obtain ⟨y, hy⟩ := hy f (by simp)
  rw [List.take_of_length_le (by rw [List.length_drop]; omega)] at hy
  exact h H enc w base spare held fuel _ y hy
theorem opensF_cons {α β : Type} {P : Program} {f : Field} {fs : List Field} {o : Nat} {d : Kd α} {d2 : Kd β} {Wf : α → Prop} {Wf2 : β → Prop} (hc : P.cellsOf f.type = d.sz) (ho : f.offset + d.sz = o)
    (h : Opens P f.type d Wf) (h2 : OpensF P fs o d2 Wf2) : OpensF P (f :: fs) f.offset (Kd.pair d d2) (fun x => Wf x.1 ∧ Wf2 x.2) := by
  intro H enc w base spare held fuel cs hl hy
  have hl' : cs.length = f.offset + (d.sz + d2.sz) := hl
  obtain ⟨y, hy1⟩ := hy f (by simp)
  obtain ⟨x, hx, hw⟩ := h H enc w base spare held fuel _ y hy1
  obtain ⟨x2, hx2, hw2⟩ := h2 H enc w base spare held fuel cs (by omega) (fun g hg => hy g (by simp [hg]))
  refine ⟨(x, x2), ⟨_, _, ?_, hx, hx2⟩, hw, hw2⟩
  rw [hc, ← ho, ← List.drop_drop, List.take_append_drop]
theorem opens_struct {α : Type} {P : Program} {t : TypeId} {fs : List Field} {d : Kd α} {Wf : α → Prop} (hu : P.underlying t = some (.struct fs.toArray)) (hc : P.cellsOf t = d.sz) (h : OpensF P fs 0 d Wf) : Opens P t d Wf := by
  intro H enc w base spare held fuel cs y hy
  obtain ⟨xs, n, _, _, hl, hlen, hf⟩ := DataW.trod_struct hu hy
  have := h H enc w base spare held n cs (by omega) ?_
  · simpa using this
  · intro f hfm
    obtain ⟨i, hi, he⟩ := List.mem_iff_getElem.1 hfm
    have h1 := hf i f (by simp [hi, he])
    have h2 : i < xs.length := by rw [hlen]; simpa using hi
    exact ⟨xs[i], by rw [h1]; simp [h2]⟩
theorem opens_iso {α β : Type} {P : Program} {t : TypeId} {d : Kd α} {Wf : α → Prop} (f : β → α) (g : α → β) (hfg : ∀ x, f (g x) = x) (h : Opens P t d Wf) : Opens P t (Kd.iso d f) (fun x => Wf (f x)) := by
  intro H enc w base spare held fuel cs y hy
  obtain ⟨x, hx, hw⟩ := h H enc w base spare held fuel cs y hy
  refine ⟨g x, ?_, by show Wf (f (g x)); rw [hfg]; exact hw⟩
  show d.K w (f (g x)) cs
  rw [hfg]
  exact hx

/-- A parameter that is a struct: its value written out. -/
theorem open_struct {α : Type} {P : Program} {t : TypeId} {fs : Array Field} {d : Kd α} {Wf : α → Prop} {r : Reach} {b0 base : Nat} {spare : Nat → Bool} {held : Bool} {H : Type} {enc : TypeId × Value → H} {w : World} {v : Value} {dt : DataW H} {p : List MemPlace}
    (hu : P.underlying t = some (.struct fs)) (ho : Opens P t d Wf) (hv : Value.okWide P w r b0 t v) (h : DataW.Trod enc P w base spare held t v dt p) : ∃ x cs, v = .agg cs.toArray ∧ d.K w x cs ∧ Wf x := by
  obtain ⟨cs, rfl, _⟩ := okWide_struct hu hv
  obtain ⟨fuel, hf⟩ := h
  obtain ⟨x, hx, hw⟩ := ho H enc w base spare held fuel _ _ hf
  exact ⟨x, cs.toList, by simp, by simpa [Value.cells] using hx, hw⟩
/-- A parameter that is a slice. -/
theorem open_row {α : Type} {P : Program} {t e : TypeId} {d : Kd α} {Wf : List α → Prop} {r : Reach} {b0 base : Nat} {spare : Nat → Bool} {held : Bool} {H : Type} {enc : TypeId × Value → H} {w : World} {v : Value} {dt : DataW H} {p : List MemPlace}
    (hu : P.underlying t = some (.slice e)) (ho : Opens P t (Kd.slice e d) Wf) (hv : Value.okWide P w r b0 t v) (h : DataW.Trod enc P w base spare held t v dt p) :
    ∃ (A : Option Addr) (c : Nat) (xs : List α), v = .slice A xs.length c ∧ xs.length ≤ c ∧ d.C w A xs.length xs ∧ Wf xs := by
  obtain ⟨a0, len, cap, rfl⟩ := okWide_slice hu hv
  obtain ⟨fuel, hf⟩ := h
  obtain ⟨x, ⟨A, c, h1, h2, h3⟩, hw⟩ := ho H enc w base spare held fuel _ _ hf
  have h1' : Value.slice a0 len cap = .slice A x.length c := by simpa [Value.cells] using h1
  exact ⟨A, c, x, h1', h2, h3, hw⟩
/-- A parameter that is an array of numbers, or of bools. -/
theorem open_arr {α : Type} {P : Program} {t e : TypeId} {n : Nat} {r : Reach} {b0 base : Nat} {spare : Nat → Bool} {held : Bool} {H : Type} {enc : TypeId × Value → H} {w : World} {v : Value} {dt : DataW H} {p : List MemPlace} (f : α → Value)
    (hu : P.underlying t = some (.array n e)) (hce : P.cellsOf e = 1) (hct : P.cellsOf t = n) (hone : ∀ (fuel : Nat) (cs : List Value) (y : DataW H × List MemPlace), DataW.trod enc P w base spare held fuel e cs = some y → ∃ x, cs = [f x])
    (hv : Value.okWide P w r b0 t v) (h : DataW.Trod enc P w base spare held t v dt p) : ∃ xs : List α, xs.length = n ∧ v = .agg (xs.map f).toArray := by
  simp only [Value.okWide, hu] at hv
  obtain ⟨cs, rfl, hcs⟩ := hv
  obtain ⟨fuel, hf⟩ := h
  obtain ⟨ys, m, _, _, hl, hlen, hel⟩ := DataW.trod_array hu hf
  have hl' : cs.toList.length = n := by rw [← hct]; simpa [Value.cells] using hl
  have hx : ∀ i, (hi : i < cs.toList.length) → ∃ x, cs.toList[i] = f x := by
    intro i hi
    have h1 := hel i (by omega)
    rw [hce, Nat.mul_one] at h1
    have hi2 : i < ys.length := by omega
    rw [List.getElem?_eq_getElem hi2] at h1
    obtain ⟨x, hx⟩ := hone _ _ _ h1
    have h2 : ((Value.agg cs).cells.toList.drop i).take 1 = [cs.toList[i]] := by
      have e1 : (Value.agg cs).cells.toList = cs.toList := by simp [Value.cells]
      rw [e1, List.drop_eq_getElem_cons hi]
      rfl
    rw [h2] at hx
    exact ⟨x, by simpa using hx⟩
  have hall : ∀ l : List Value, (∀ i, (hi : i < l.length) → ∃ x, l[i] = f x) → ∃ xs : List α, l = xs.map f := by
    intro l
    induction l with
    | nil => intro _; exact ⟨[], rfl⟩
    | cons a l ih =>
      intro h
      obtain ⟨x, hx⟩ := h 0 (by simp)
      obtain ⟨xs, hxs⟩ := ih (fun i hi => by
        obtain ⟨y, hy⟩ := h (i + 1) (by simpa using hi)
        exact ⟨y, by simpa using hy⟩)
      refine ⟨x :: xs, ?_⟩
      have hx' : a = f x := hx
      rw [hx', hxs]
      rfl
  obtain ⟨xs, hxs⟩ := hall _ hx
  refine ⟨xs, by rw [← hl', hxs]; simp, ?_⟩
  rw [← hxs]
theorem open_arr_int {P : Program} {t e : TypeId} {n : Nat} {k : IntKind} {r : Reach} {b0 base : Nat} {spare : Nat → Bool} {held : Bool} {H : Type} {enc : TypeId × Value → H} {w : World} {v : Value} {dt : DataW H} {p : List MemPlace}
    (hu : P.underlying t = some (.array n e)) (he : P.underlying e = some (.int k)) (hce : P.cellsOf e = 1) (hct : P.cellsOf t = n) (hv : Value.okWide P w r b0 t v) (h : DataW.Trod enc P w base spare held t v dt p) : ∃ xs : List Int, xs.length = n ∧ v = .agg (xs.map (Value.int k)).toArray :=
  open_arr (Value.int k) hu hce hct (fun fuel cs y hy => by obtain ⟨n, h1, _, _⟩ := DataW.trod_int he hy; exact ⟨n, h1⟩) hv h
theorem open_arr_bool {P : Program} {t e : TypeId} {n : Nat} {r : Reach} {b0 base : Nat} {spare : Nat → Bool} {held : Bool} {H : Type} {enc : TypeId × Value → H} {w : World} {v : Value} {dt : DataW H} {p : List MemPlace}
    (hu : P.underlying t = some (.array n e)) (he : P.underlying e = some .bool) (hce : P.cellsOf e = 1) (hct : P.cellsOf t = n) (hv : Value.okWide P w r b0 t v) (h : DataW.Trod enc P w base spare held t v dt p) : ∃ xs : List Bool, xs.length = n ∧ v = .agg (xs.map Value.bool).toArray :=
  open_arr Value.bool hu hce hct (fun fuel cs y hy => by obtain ⟨n, h1, _⟩ := DataW.trod_bool he hy; exact ⟨n, h1⟩) hv h
theorem list_len2 {α : Type} (L : List α) (h : L.length = 2) : ∃ a0 a1, L = [a0, a1] := by match L, h with | [a0, a1], _ => exact ⟨a0, a1, rfl⟩
theorem list_len3 {α : Type} (L : List α) (h : L.length = 3) : ∃ a0 a1 a2, L = [a0, a1, a2] := by match L, h with | [a0, a1, a2], _ => exact ⟨a0, a1, a2, rfl⟩
theorem list_len4 {α : Type} (L : List α) (h : L.length = 4) : ∃ a0 a1 a2 a3, L = [a0, a1, a2, a3] := by match L, h with | [a0, a1, a2, a3], _ => exact ⟨a0, a1, a2, a3, rfl⟩
theorem list_len5 {α : Type} (L : List α) (h : L.length = 5) : ∃ a0 a1 a2 a3 a4, L = [a0, a1, a2, a3, a4] := by match L, h with | [a0, a1, a2, a3, a4], _ => exact ⟨a0, a1, a2, a3, a4, rfl⟩
theorem list_len6 {α : Type} (L : List α) (h : L.length = 6) : ∃ a0 a1 a2 a3 a4 a5, L = [a0, a1, a2, a3, a4, a5] := by match L, h with | [a0, a1, a2, a3, a4, a5], _ => exact ⟨a0, a1, a2, a3, a4, a5, rfl⟩
end Go.Proofs.Ythldophikcgkcab.X
