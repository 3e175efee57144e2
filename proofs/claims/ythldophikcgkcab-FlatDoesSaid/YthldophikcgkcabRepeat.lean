/- strings.Repeat as a plain function, where its result has at most 2^47 bytes. -/
import Derived.Test.YthldophikcgkcabXShelf
namespace Go.Proofs.Ythldophikcgkcab.X
open Go.RowKit Go.Shelf Go.Proofs
def strings_Repeat.f (a0 : ByteArray) (a1 : Int) : Option ByteArray := if 0 ≤ a1 then (if a1 ≤ 9223372036854775807 then (if (a0.size : Int) * a1 ≤ 140737488355328 then (some ⟨(Lib.repeatL a0.data.toList a1.toNat).toArray⟩) else (none)) else (none)) else (none)
theorem strings_Repeat.calls (a0 : ByteArray) (a1 : Int) (r : ByteArray) (w : World) (h : strings_Repeat.f a0 a1 = some r) :
    Calls Try.prog 58 #[.string a0, .int .i64 a1] w fun e w' => e = .returned (.string r) ∧ Below w.heap.size w w' := by
  unfold strings_Repeat.f at h
  split at h
  · rename_i h0
    split at h
    · rename_i h1
      split at h
      · rename_i h2
        obtain rfl := Option.some.inj h
        obtain ⟨n, rfl⟩ := Int.eq_ofNat_of_zero_le h0
        have h3 : ((a0.size * n : Nat) : Int) ≤ 140737488355328 := by rw [Int.natCast_mul]; exact h2
        exact Any.strings_Repeat lays_n105 extra a0 n w (by omega) (by omega)
      · cases h
    · cases h
  · cases h
end Go.Proofs.Ythldophikcgkcab.X
