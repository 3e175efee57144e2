/- hexa.Put as a plain function: two digits for each byte. -/
import Derived.Test.YtfblmfefcgmpfacBuild
import Derived.Lib.ConvBytes
import Derived.LoopTactic
namespace Go.Proofs.Ytfblmfefcgmpfac.X
open Go.RowKit Go.Shelf Go.Proofs

/-- A digit. -/
def hexD (n : Nat) : UInt8 := if n < 10 then UInt8.ofNat (48 + n) else UInt8.ofNat (87 + n)
/-- The digits of bytes. -/
def hexL : List UInt8 → List UInt8
  | [] => []
  | b :: l => hexD (b.toNat / 16) :: hexD (b.toNat % 16) :: hexL l
theorem hexL_length (l : List UInt8) : (hexL l).length = 2 * l.length := by
  induction l with
  | nil => rfl
  | cons b l ih => simp [hexL, ih]; omega
theorem hexL_append (a b : List UInt8) : hexL (a ++ b) = hexL a ++ hexL b := by
  induction a with
  | nil => rfl
  | cons x a ih => simp [hexL, ih]
abbrev hexDigits : ByteArray := ⟨#[48, 49, 50, 51, 52, 53, 54, 55, 56, 57, 97, 98, 99, 100, 101, 102]⟩
theorem hexD_fin : ∀ n : Fin 16, hexDigits[n.val]'(n.isLt) = hexD n.val := by decide
theorem hexD_at (n : Nat) (h : n < 16) (h' : n < hexDigits.size) : hexDigits[n]'h' = hexD n := hexD_fin ⟨n, h⟩
theorem hexL_take (l : List UInt8) (k : Nat) (h : k < l.length) (x : UInt8) (hx : l.getD k 0 = x) : hexL (l.take (k + 1)) = hexL (l.take k) ++ [hexD (x.toNat / 16), hexD (x.toNat % 16)] := by
  rw [List.take_succ_eq_append_getElem h, hexL_append]
  have : l[k] = x := by rw [← hx]; simp [h]
  rw [this]; rfl
def hexa_Put.f (a0 : ByteArray) : Option ByteArray := if a0.size ≤ 70368744177664 then (some ⟨(hexL a0.data.toList).toArray⟩) else (none)

set_option maxHeartbeats 4000000 in
set_option maxRecDepth 100000 in
theorem hexa_Put.calls (a0 : ByteArray) (r : ByteArray) (w : World) (h : hexa_Put.f a0 = some r) :
    Calls Try.prog 9 #[.string a0] w fun e w' => e = .returned (.string r) ∧ Below w.heap.size w w' := by
  unfold hexa_Put.f at h
  split at h
  · rename_i hs
    obtain rfl := Option.some.inj h
    clear h
    have hcv := fun (W : World) => Lib.run_convert_string_bytes (P := Try.prog) W 9 51 5 a0 Try.underlying9 Try.underlying51 Try.underlying5
    go_enter Try.func9, Try.ntmps9
    go_wp2
    obtain ⟨W0, hW0⟩ : ∃ W0, Lib.bytesWorld (w.alloc (.cells #[.pointer none, .slice none 0 0] 57)) 5 a0 = W0 := ⟨_, rfl⟩
    have hsz0 : W0.heap.size = w.heap.size + 2 := by rw [← hW0, Lib.bytesWorld_size]; simp
    have hB0 : Bld w.heap.size (w.heap.size + 2) [] W0 := by
      refine Bld.new ?_ (by omega)
      rw [← hW0, Lib.bytesWorld_at_old _ _ _ _ (by simp)]
      exact heap_alloc_new w _
    have hbel : Below w.heap.size w W0 := by
      have h1 : Below w.heap.size w (w.alloc (.cells #[.pointer none, .slice none 0 0] 57)) := (Below.refl _ _).alloc (Nat.le_refl _) _
      refine ⟨?_, ?_, ?_, by omega, fun i hi => ?_⟩
      · rw [← hW0]; rfl
      · rw [← hW0]; rfl
      · rw [← hW0]; rfl
      · rw [← hW0, Lib.bytesWorld_at_old _ _ _ _ (by simp; omega)]; exact h1.block i hi
    have hcell : ∀ j, j < a0.size → W0.cell? ⟨w.heap.size + 1, j, none⟩ = some (.int .u8 (a0.data.toList.getD j 0).toNat) := by
      intro j hj
      have := Lib.bytesWorld_cell (w.alloc (.cells #[.pointer none, .slice none 0 0] 57)) 5 a0 j hj
      rw [hW0] at this
      simpa using this
    have HC := Lib.hid hcell
    have HB0 := Lib.hid hB0
    have HW0 := Lib.hid hW0
    have HS0 := Lib.hid hsz0
    clear hcell hB0 hcv hsz0
    rw [HW0.out]
    clear HW0 hW0
    go_loopw [9] (fun i wr => ∃ k : Nat, k ≤ a0.size ∧ i = .int .i64 k ∧ Bld w.heap.size (w.heap.size + 2) (Lib.byteCells (hexL (a0.data.toList.take k))) wr ∧ KeptB w.heap.size (w.heap.size + 2) W0 wr) (fun i _ => a0.size - (intOf i).toNat)
    case atStart => exact ⟨0, Nat.zero_le _, rfl, HB0.out, KeptB.refl _ _ _⟩
    case round =>
      obtain ⟨k, hk, rfl, hbld, hkept⟩ := hrel
      have hb1 := hbld
      have hszr := hkept.size
      rw [HS0.out] at hszr
      by_cases hlt : k < a0.size
      · have hc1 : wr.cell? ⟨w.heap.size + 1, k, none⟩ = some (.int .u8 (a0.data.toList.getD k 0).toNat) := by rw [hkept.cell _ _ (by omega) (by omega)]; exact HC.out k hlt
        obtain ⟨x, hx⟩ : ∃ x, a0.data.toList.getD k 0 = x := ⟨_, rfl⟩
        rw [hx] at hc1
        have HX := Lib.hid hx
        clear hx
        have hx := x.toNat_lt
        have hlen : (Lib.byteCells (hexL (a0.data.toList.take k))).length = 2 * k := by
          rw [Lib.byteCells_length, hexL_length, List.length_take]; simp; omega
        go_wp2_with fail
        refine (WriteByte_b _ _ _ _ _ hb1 (by omega) (by omega)).mono ?_
        rintro e w1 ⟨rfl, hb2, hk2⟩
        have hsz1 := hk2.size
        go_wp2_with fail
        refine (WriteByte_b _ _ _ _ _ hb2 (by simp; omega) (by omega)).mono ?_
        rintro e w2 ⟨rfl, hb3, hk3⟩
        go_wp2
        go_roundw
        case rel =>
          refine ⟨k + 1, by omega, by go_num, ?_, (hkept.trans hk2).trans hk3⟩
          rw [hexL_take _ k (by simpa using hlt) x HX.out, Lib.byteCells_append]
          rw [hexD_at _ (by omega), hexD_at _ (by omega)] at hb3
          simpa [Lib.byteCells] using hb3
        case measure => simp [intOf]; omega
      · go_wp2_with fail
        refine (String_b _ _ w.heap.size _ _ hb1 (Nat.le_refl _)).mono ?_
        rintro e w1 ⟨rfl, hb2⟩
        go_wp2
        go_ret
        have e : k = a0.size := by omega
        refine ⟨?_, ?_⟩
        · have : a0.data.toList.take k = a0.data.toList := List.take_of_length_le (by simp; omega)
          show Ending.returned (.string ⟨(hexL (List.take k a0.data.toList)).toArray⟩) = _
          rw [this]
        · exact (hkept.below hbel (Nat.le_refl _) (by omega)).trans hb2
  · cases h
end Go.Proofs.Ytfblmfefcgmpfac.X
