/- tarnref44.Put as a plain function: two digits for each byte. -/
import Derived.Test.YtfblmfefcgmpfacHexaPut
import Derived.Deep.QuietTactic
import Derived.BigQuiet
namespace Go.Proofs.Ytfblmfefcgmpfac.X
open Go.RowKit Go.Shelf Go.Proofs

def tarnref44_Put.f (a0 : ByteArray) : Option ByteArray := if a0.size ≤ 70368744177664 then (some ⟨(hexL a0.data.toList).toArray⟩) else (none)
theorem below_drewN_ {B : Nat} {w W : World} (h : Below B w W) (n : Nat) : Below B w (W.drewN n) := ⟨h.os, h.tape, h.output, h.size, h.block⟩
theorem u8_plain (a : Int) (h0 : 0 ≤ a) (h1 : a < 256) : IntKind.u8.wrap a = a := by
  have : IntKind.u8.wrap a = a % 256 := rfl
  rw [this]; omega
theorem hexDigits_at : ∀ n : Fin 16, hexDigits.extract n.val (n.val + 1) = ⟨#[hexD n.val]⟩ := by decide
theorem hexDigits_one (n : Nat) (h : n < 16) : hexDigits.extract n (n + 1) = ⟨#[hexD n]⟩ := hexDigits_at ⟨n, h⟩
theorem slice_digit (n : Nat) (h : n < 16) (W : World) : (Instr.slice 9 (.string ⟨#[48, 49, 50, 51, 52, 53, 54, 55, 56, 57, 97, 98, 99, 100, 101, 102]⟩) (some (.int .u8 (n : Int))) (some (.int .u8 ((n : Int) + 1))) none).run Try.prog W = .ok (.string ⟨#[hexD n]⟩) W := by
  have hz : (⟨#[48, 49, 50, 51, 52, 53, 54, 55, 56, 57, 97, 98, 99, 100, 101, 102]⟩ : ByteArray).size = 16 := rfl
  rw [run_slice_string W 9 _ .u8 .u8 (n : Int) ((n : Int) + 1) Try.underlying9 (by omega) (by omega) (by rw [hz]; omega)]
  have e1 : ((n : Int) + 1).toNat = n + 1 := by omega
  rw [e1, Int.toNat_natCast]
  exact congrArg (fun z => Result.ok (Value.string z) W) (hexDigits_one n h)
theorem str_two (l : List UInt8) (a b : UInt8) : (⟨l.toArray⟩ : ByteArray) ++ ((⟨#[a]⟩ : ByteArray) ++ (⟨#[b]⟩ : ByteArray)) = ⟨(l ++ [a, b]).toArray⟩ := by
  apply ByteArray.ext
  simp

set_option maxHeartbeats 4000000 in
set_option maxRecDepth 100000 in
theorem tarnref44_Put.calls (a0 : ByteArray) (r : ByteArray) (w : World) (h : tarnref44_Put.f a0 = some r) :
    Calls Try.prog 11 #[.string a0] w fun e w' => e = .returned (.string r) ∧ Below w.heap.size w w' := by
  unfold tarnref44_Put.f at h
  split at h
  · rename_i hs
    obtain rfl := Option.some.inj h
    clear h
    go_enter Try.func11, Try.ntmps11
    go_wp2
    go_loopw [4, 5] (fun o i wr => ∃ k : Nat, k ≤ a0.size ∧ i = .int .i64 k ∧ o = .string ⟨(hexL (a0.data.toList.take k)).toArray⟩ ∧ Below w.heap.size w wr) (fun _ i _ => a0.size - (intOf i).toNat)
    case atStart => exact ⟨0, Nat.zero_le _, rfl, rfl, Below.refl _ _⟩
    case round =>
      obtain ⟨k, hk, rfl, rfl, hbel⟩ := hrel
      by_cases hlt : k < a0.size
      · obtain ⟨x, hx⟩ : ∃ x, a0[k] = x := ⟨_, rfl⟩
        have hn := x.toNat_lt
        obtain ⟨n, hxn⟩ : ∃ n, x.toNat = n := ⟨_, rfl⟩
        rw [hxn] at hn
        obtain ⟨q, hq⟩ : ∃ q, n / 16 = q := ⟨_, rfl⟩
        obtain ⟨m, hm⟩ : ∃ m, n % 16 = m := ⟨_, rfl⟩
        have e1 : (n : Int).tdiv 16 = (q : Int) := by rw [Int.tdiv_eq_ediv_of_nonneg (by omega)]; omega
        have e2 : IntKind.u8.wrap (q : Int) = (q : Int) := u8_plain _ (by omega) (by omega)
        have e3 : IntKind.u8.wrap ((q : Int) + 1) = (q : Int) + 1 := u8_plain _ (by omega) (by omega)
        have e4 : (n : Int).tmod 16 = (m : Int) := by rw [Int.tmod_eq_emod_of_nonneg (by omega)]; omega
        have e5 : IntKind.u8.wrap ((m : Int) + 1) = (m : Int) + 1 := u8_plain _ (by omega) (by omega)
        have e6 : (n : Int) / 16 = (q : Int) := by omega
        have e7 : (n : Int) % 16 = (m : Int) := by omega
        have b1 : q < 16 := by omega
        have b2 : m < 16 := by omega
        have b3 : (q : Int) + 1 ≤ 16 := by omega
        have b4 : (m : Int) + 1 ≤ 16 := by omega
        have s1 := slice_digit q b1
        have s2 := slice_digit m b2
        have f1 : (⟨(hexL (a0.data.toList.take k)).toArray⟩ : ByteArray).size + ((⟨#[hexD q]⟩ : ByteArray) ++ (⟨#[hexD m]⟩ : ByteArray)).size ≤ 9223372036854775807 := by
          have e8 : ∀ l : List UInt8, (⟨l.toArray⟩ : ByteArray).size = l.length := fun l => rfl
          have e9 : ((⟨#[hexD q]⟩ : ByteArray) ++ (⟨#[hexD m]⟩ : ByteArray)).size = 2 := by simp [ByteArray.size_append]; rfl
          rw [e8, e9, hexL_length, List.length_take]
          omega
        have f2 : ∀ W : World, (Op.stringOp .add (⟨(hexL (a0.data.toList.take k)).toArray⟩ : ByteArray) ((⟨#[hexD q]⟩ : ByteArray) ++ (⟨#[hexD m]⟩ : ByteArray))).run Try.prog W = .ok (.string ⟨(hexL (a0.data.toList.take k) ++ [hexD q, hexD m]).toArray⟩) W := by
          intro W
          rw [run_string_add_sum W _ _ f1, str_two]
        clear f1
        have HQ := Lib.hid hq; have HM := Lib.hid hm
        clear hq hm
        go_wp2
        go_quiet (fail)
        go_wp2
        go_roundw
        case rel =>
          refine ⟨k + 1, by omega, by go_num, ?_, below_drewN_ hbel _⟩
          have hx2 : a0.data.toList.getD k 0 = x := by rw [← hx]; simp [hlt]; rfl
          rw [hexL_take _ k (by simpa using hlt) x hx2, hxn, HQ.out, HM.out]
        case measure => simp [intOf]; omega
      · go_wp2
        go_ret
        have e : k = a0.size := by omega
        have : a0.data.toList.take k = a0.data.toList := List.take_of_length_le (by simp; omega)
        refine ⟨?_, hbel⟩
        show Ending.returned (.string ⟨(hexL (List.take k a0.data.toList)).toArray⟩) = _
        rw [this]
  · cases h
end Go.Proofs.Ytfblmfefcgmpfac.X
