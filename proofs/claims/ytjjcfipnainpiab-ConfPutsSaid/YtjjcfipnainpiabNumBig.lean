/- num.big of at most five bytes, as a plain function. -/
import Derived.Test.YtjjcfipnainpiabBuild
import Derived.Test.YtjjcfipnainpiabWMore
import Derived.Lib.ConvBytes
import Derived.LoopTactic
namespace Go.Proofs.Ytjjcfipnainpiab.X
open Go.RowKit Go.Shelf Go.Proofs Go.Proofs.YtjjcfipnainpiabW.PrintWords Go.Proofs.YtjjcfipnainpiabW.PrintLast Go.Proofs.YtjjcfipnainpiabW.PrintMore

/-- The number of bytes, the highest first. -/
def bigN (l : List UInt8) : Nat := l.foldl (fun n b => n * 256 + b.toNat) 0
theorem bigN_snoc (l : List UInt8) (b : UInt8) : bigN (l ++ [b]) = bigN l * 256 + b.toNat := by simp [bigN]
theorem bigN_lt (l : List UInt8) : bigN l < 256 ^ l.length := by
  have key : ∀ (l : List UInt8) (n m : Nat), n < 256 ^ m → l.foldl (fun n b => n * 256 + b.toNat) n < 256 ^ (m + l.length) := by
    intro l
    induction l with
    | nil => intro n m h; exact h
    | cons b l ih =>
      intro n m h
      have hb := b.toNat_lt
      have := ih (n * 256 + b.toNat) (m + 1) (by rw [Nat.pow_succ]; omega)
      rw [List.length_cons, show m + (l.length + 1) = m + 1 + l.length by omega]
      exact this
  have := key l 0 0 (by simp)
  rw [Nat.zero_add] at this
  exact this
theorem wraps_48 (n : Int) (h0 : 0 ≤ n) (h1 : n < 2 ^ 48) : IntKind.u64.wrap n = n := by
  simp [IntKind.wrap, IntKind.bits, IntKind.signed]
  omega
theorem or_byte (x : Nat) (y : Nat) (hx : x < 4294967296) (hy : y < 256) : Go.bits .or .u64 ((x : Int) * 256) (y : Int) = ((x * 256 + y : Nat) : Int) := by
  rw [bits_join .u64 48 (by decide) wraps_48 8 ((x : Int) * 256) (y : Int) (by omega) (by omega) (by omega) (by omega) (by omega) (by omega)]
  omega
theorem bigN_take (l : List UInt8) (k : Nat) (h : k < l.length) (x : UInt8) (hx : l.getD k 0 = x) : bigN (l.take (k + 1)) = bigN (l.take k) * 256 + x.toNat := by
  have : l[k] = x := by rw [← hx]; simp [h]
  rw [List.take_succ_eq_append_getElem h, bigN_snoc, this]
def num_big.f (a0 : ByteArray) : Option Int := if a0.size ≤ 4 then some (bigN a0.data.toList : Int) else none

set_option maxHeartbeats 4000000 in
set_option maxRecDepth 100000 in
theorem num_big.calls (a0 : ByteArray) (r : Int) (w : World) (h : num_big.f a0 = some r) :
    Calls Try.prog 128 #[.string a0] w fun e w' => e = .returned (.int .u64 r) ∧ Below w.heap.size w w' := by
  unfold num_big.f at h
  split at h
  · rename_i hs
    obtain rfl := Option.some.inj h
    clear h
    have hcv := fun (W : World) => Lib.run_convert_string_bytes (P := Try.prog) W 9 108 5 a0 Try.underlying9 Try.underlying108 Try.underlying5
    go_enter Try.func128, Try.ntmps128
    go_wp2
    obtain ⟨W0, hW0⟩ : ∃ W0, Lib.bytesWorld w 5 a0 = W0 := ⟨_, rfl⟩
    have hsz0 : W0.heap.size = w.heap.size + 1 := by rw [← hW0, Lib.bytesWorld_size]
    have hbel : Below w.heap.size w W0 := by
      refine ⟨?_, ?_, ?_, by omega, fun i hi => ?_⟩
      · rw [← hW0]; rfl
      · rw [← hW0]; rfl
      · rw [← hW0]; rfl
      · rw [← hW0, Lib.bytesWorld_at_old _ _ _ _ hi]
    have hcell : ∀ j, j < a0.size → W0.cell? ⟨w.heap.size, j, none⟩ = some (.int .u8 (a0.data.toList.getD j 0).toNat) := by
      intro j hj
      have := Lib.bytesWorld_cell w 5 a0 j hj
      rw [hW0] at this
      simpa using this
    have HC := Lib.hid hcell
    have HW0 := Lib.hid hW0
    clear hcell hcv
    rw [HW0.out]
    clear HW0 hW0
    go_loopw [3, 9] (fun vn vi wr => ∃ k : Nat, k ≤ a0.size ∧ vi = .int .i64 (k : Int) ∧ vn = .int .u64 (bigN (a0.data.toList.take k) : Int) ∧ wr = W0) (fun _ vi => fun _ => a0.size - (intOf vi).toNat)
    case atStart => exact ⟨0, Nat.zero_le _, rfl, rfl, rfl⟩
    case round =>
      obtain ⟨k, hk, rfl, rfl, hwr⟩ := hrel
      have hwr' := hwr.symm
      subst hwr'
      clear hwr
      have hlen : a0.data.toList.length = a0.size := by simp
      by_cases hlt : k < a0.size
      · have hc1 := HC.out k hlt
        obtain ⟨x, hx⟩ : ∃ x, a0.data.toList.getD k 0 = x := ⟨_, rfl⟩
        rw [hx] at hc1
        have hbt := bigN_take a0.data.toList k (by omega) x hx
        have hb4 : bigN (a0.data.toList.take k) < 4294967296 := by
          have h1 := bigN_lt (a0.data.toList.take k)
          have h2 : (a0.data.toList.take k).length ≤ 3 := by rw [List.length_take]; omega
          have h3 : 256 ^ (a0.data.toList.take k).length ≤ 256 ^ 3 := Nat.pow_le_pow_right (by decide) h2
          have h4 : (256 : Nat) ^ 3 < 4294967296 := by decide
          omega
        have hx8 := x.toNat_lt
        have hor := or_byte (bigN (a0.data.toList.take k)) x.toNat hb4 hx8
        clear hx
        generalize bigN (a0.data.toList.take k) = n at hbt hb4 hor ⊢
        go_wp2
        go_roundw
        case rel => exact ⟨k + 1, by omega, by go_num, by rw [hbt]; go_num, by first | rfl | trivial⟩
        case measure => simp [intOf]; omega
      · have e : k = a0.size := by omega
        have ht : a0.data.toList.take k = a0.data.toList := List.take_of_length_le (by omega)
        rw [ht]
        go_wp2
        go_ret
        exact ⟨rfl, hbel⟩
  · cases h
end Go.Proofs.Ytjjcfipnainpiab.X
