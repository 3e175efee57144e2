/- flat.Flat: Bytes; New of none; what tarnlaw35 holds awake. -/
import Derived.Test.YthldophikcgkcabRefDo
import Derived.Test.YthldophikcgkcabXShelf
import Derived.Shelf.Strings.OnBuilder
namespace Go.Proofs.Ythldophikcgkcab.Y
set_option linter.unusedVariables false
set_option linter.unusedSimpArgs false
open Go.RowKit Go.Shelf Go.Proofs Go.IntWalk Go.Proofs.YthldophikcgkcabW.PrintWords Go.Proofs.YthldophikcgkcabW.PrintLast Go.Proofs.YthldophikcgkcabW.PrintMore Go.Proofs.Ythldophikcgkcab.X Go.Proofs.Ythldophikcgkcab.PFlat

/-- Blocks, one behind the other. -/
def cat (L : List ByteArray) : ByteArray := ⟨(Lib.join (L.map (·.data.toList)) []).toArray⟩
theorem join_nil' : ∀ L : List (List UInt8), Lib.join L [] = L.flatten
  | [] => rfl
  | x :: r => by
    rw [Lib.join_cons]
    unfold Lib.joinTail
    simp
theorem flat_len : ∀ L : List ByteArray, (∀ x ∈ L, x.size ≤ 32) → (L.map (·.data.toList)).flatten.length ≤ 32 * L.length
  | [], _ => by simp
  | x :: r, h => by
    have h1 := flat_len r (fun y hy => h y (List.mem_cons_of_mem _ hy))
    have h2 : x.data.toList.length ≤ 32 := h x List.mem_cons_self
    rw [List.map_cons, List.flatten_cons, List.length_append, List.length_cons]
    omega
theorem cat_nil : cat [] = ⟨#[]⟩ := rfl
theorem cat_snoc (L : List ByteArray) (x : ByteArray) : cat (L ++ [x]) = cat L ++ x := by
  unfold cat
  rw [join_nil', join_nil']
  apply ByteArray.ext
  apply Array.ext'
  simp
theorem cat_size {L : List ByteArray} (h : ∀ x ∈ L, x.size ≤ 32) : (cat L).size ≤ 32 * L.length := by
  have := flat_len L h
  rw [← join_nil'] at this
  simpa [cat, ByteArray.size] using this
set_option maxHeartbeats 4000000 in
set_option maxRecDepth 100000 in
theorem bytes_n (w : World) (g : Nat) (v : Value) (L : List ByteArray) (base : Nat) (H : FI w g v L base) (hL : L.length ≤ 64) (h32 : ∀ x ∈ L, x.size ≤ 32) :
    Calls Try.prog 32 #[.pointer (some ⟨g, 0, none⟩)] w fun e w' => e = .returned (.string (cat L)) ∧ Below w.heap.size w w' := by
  have hlen : (Lib.join (L.map (·.data.toList)) (⟨#[]⟩ : ByteArray).data.toList).length ≤ 140737488355328 := by
    have h := flat_len L h32
    rw [← join_nil'] at h
    refine Nat.le_trans h ?_
    omega
  obtain ⟨A, c, rfl⟩ := own_slice H.r
  have HC : Calls Try.prog 56 #[.slice A L.length c, .string ⟨#[]⟩] w fun e w' => e = .returned (.string (cat L)) ∧ Below w.heap.size w w' := by
    rcases H.r.2 with ⟨hv, h0⟩ | ⟨gr, cap, cur, hv, _, hcur, hnc, _⟩
    · have : L = [] := List.eq_nil_of_length_eq_zero h0
      subst this
      exact (Any.strings_Join_none lays_n156 extra A c ⟨#[]⟩ w).mono fun e w' h => ⟨h.1, h.2 ▸ Below.refl _ _⟩
    · injection hv with h1 h2 h3
      subst h1
      refine Any.strings_Join lays_n156 extra gr 0 c L ⟨#[]⟩ w (fun j x hx => ?_) (blk_lt hcur) (by omega) (by omega) hlen
      have hj : (encs Value.string L)[j]? = some (.string x) := by simp [encs, hx]
      have hc := H.r.cells (g := gr) rfl j _ hj
      rw [Nat.zero_add]
      rwa [add_plain] at hc
  have HCC := Lib.hid HC
  have c0 := blk_cell H.h 0
  clear HC H hlen
  go_enter Try.func32, Try.ntmps32
  go_wp2_with fail
  refine HCC.out.mono ?_
  rintro e w' ⟨rfl, hb⟩
  have HB := Lib.hid hb
  clear hb c0
  go_wp2_with fail
  go_ret
  exact ⟨rfl, HB.out⟩
end Go.Proofs.Ythldophikcgkcab.Y
