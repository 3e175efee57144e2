/- num.Put of a number below 2^24, and num.List of such numbers, as plain functions. -/
import Derived.Test.YtjjcfipnainpiabBuild
import Derived.Test.YtjjcfipnainpiabWMore
import Derived.LoopTactic
namespace Go.Proofs.Ytjjcfipnainpiab.X
open Go.RowKit Go.Shelf Go.Proofs Go.Proofs.YtjjcfipnainpiabW.PrintWords Go.Proofs.YtjjcfipnainpiabW.PrintLast Go.Proofs.YtjjcfipnainpiabW.PrintMore

/-- How many bytes a number needs. -/
def wd (n : Nat) : Nat := if n = 0 then 0 else if n < 256 then 1 else if n < 65536 then 2 else 3
/-- The lowest bytes of a number, the highest first. -/
def hiL (n : Nat) : Nat → List UInt8
  | 0 => []
  | j + 1 => UInt8.ofNat (n / 256 ^ j % 256) :: hiL n j
def putL (n : Nat) : List UInt8 := UInt8.ofNat (wd n) :: hiL n (wd n)
theorem wd_le (n : Nat) : wd n ≤ 3 := by unfold wd; split <;> (try split) <;> (try split) <;> omega
theorem wd_pos {n j : Nat} (h : j < wd n) : 0 < n / 256 ^ j := by
  have h3 := wd_le n
  have hj : j = 0 ∨ j = 1 ∨ j = 2 := by omega
  unfold wd at h
  rcases hj with rfl | rfl | rfl <;> simp only [Nat.reducePow] <;> split at h <;> (try split at h) <;> (try split at h) <;> omega
theorem wd_zero {n : Nat} (h : n < 16777216) : n / 256 ^ wd n = 0 := by
  unfold wd
  split
  · subst_vars; rfl
  · split
    · simp only [Nat.reducePow]; omega
    · split
      · simp only [Nat.reducePow]; omega
      · simp only [Nat.reducePow]; omega
theorem div_succ (n j : Nat) : n / 256 ^ j / 256 = n / 256 ^ (j + 1) := by rw [Nat.div_div_eq_div_mul, Nat.pow_succ]
set_option maxHeartbeats 2000000 in
set_option maxRecDepth 100000 in
theorem width_n (n : Nat) (hn : n < 16777216) (w : World) : Calls Try.prog 105 #[.int .u64 (n : Int)] w fun e w' => e = .returned (.int .i64 (wd n : Int)) ∧ w' = w := by
  go_enter Try.func105, Try.ntmps105
  go_wp2
  go_loopw [0, 3] (fun vn vw wr => ∃ j : Nat, j ≤ wd n ∧ vn = .int .u64 ((n / 256 ^ j : Nat) : Int) ∧ vw = .int .i64 (j : Int) ∧ wr = w) (fun _ vw => fun _ => 4 - (intOf vw).toNat)
  case atStart => exact ⟨0, Nat.zero_le _, by simp, rfl, rfl⟩
  case round =>
    obtain ⟨j, hj, rfl, rfl, hwr⟩ := hrel
    have hwr' := hwr.symm
    subst hwr'
    have h3 := wd_le n
    by_cases hlt : j < wd n
    · have hp := wd_pos hlt
      have hd := div_succ n j
      generalize n / 256 ^ j = m at hp hd ⊢
      have hp' : (0 : Int) < (m : Int) := by omega
      go_wp2
      go_roundw
      case rel => exact ⟨j + 1, hlt, by rw [← hd]; go_num, by go_num, by first | rfl | trivial⟩
      case measure => simp [intOf]; omega
    · have hj' : j = wd n := by omega
      have hz := wd_zero hn
      rw [← hj'] at hz
      rw [hz]
      go_wp2
      go_ret
      exact ⟨rfl, rfl⟩
theorem c_eq (n i : Nat) : ((UInt8.ofNat (n / 256 ^ i % 256)).toNat : Int) = ((n / 256 ^ i : Nat) : Int) % 256 := by
  have : (UInt8.ofNat (n / 256 ^ i % 256)).toNat = n / 256 ^ i % 256 := by simp
  rw [this]
  omega
set_option maxHeartbeats 4000000 in
set_option maxRecDepth 100000 in
theorem put_n (n : Nat) (hn : n < 16777216) (w : World) : Calls Try.prog 90 #[.int .u64 (n : Int)] w fun e w' => e = .returned (.string ⟨(putL n).toArray⟩) ∧ Below w.heap.size w w' := by
  have h3 := wd_le n
  go_enter Try.func90, Try.ntmps90
  go_wp2_with fail
  refine (width_n n hn w).mono ?_
  rintro e W ⟨rfl, hW⟩
  have hW' := hW.symm
  subst hW'
  clear hW
  have hB0 : Bld w.heap.size (w.heap.size + 1) [] (w.alloc (.cells #[.pointer none, .slice none 0 0] 125)) := Bld.new (heap_alloc_new w _) (by omega)
  have hbel : Below w.heap.size w (w.alloc (.cells #[.pointer none, .slice none 0 0] 125)) := below_alloc (Below.refl _ _) _
  have hs0 : (w.alloc (.cells #[.pointer none, .slice none 0 0] 125)).heap.size = w.heap.size + 1 := by simp
  go_wp2_with fail
  generalize w.alloc (.cells #[.pointer none, .slice none 0 0] 125) = W0 at hB0 hbel hs0 ⊢
  refine (WriteByte_b _ _ _ _ _ hB0 (by simp) (by omega)).mono ?_
  rintro e W1 ⟨rfl, hB1, hK1⟩
  have hB1' : Bld w.heap.size (w.heap.size + 1) (Lib.byteCells [UInt8.ofNat (wd n)]) W1 := by
    have e : Lib.byteCells [UInt8.ofNat (wd n)] = [.int .u8 (wd n : Int)] := by
      have : (UInt8.ofNat (wd n)).toNat = wd n := by simp; omega
      simp [Lib.byteCells, this]
    rw [e]
    exact hB1
  clear hB1 hB0
  go_wp2
  go_loopw [3] (fun vw wr => ∃ (j : Nat) (pre : List UInt8), j ≤ wd n ∧ vw = .int .i64 (j : Int) ∧ pre ++ hiL n j = hiL n (wd n) ∧ pre.length + j ≤ 3 ∧ Bld w.heap.size (w.heap.size + 1) (Lib.byteCells (UInt8.ofNat (wd n) :: pre)) wr ∧ KeptB w.heap.size (w.heap.size + 1) W0 wr) (fun vw => fun _ => (intOf vw).toNat)
  case atStart => exact ⟨wd n, [], Nat.le_refl _, rfl, rfl, by simpa using h3, hB1', hK1⟩
  case round =>
    obtain ⟨j, pre, hj, rfl, hpre, hpl, hbld, hkept⟩ := hrel
    have hszr := hkept.size
    rw [hs0] at hszr
    have hlen : (Lib.byteCells (UInt8.ofNat (wd n) :: pre)).length = pre.length + 1 := by rw [Lib.byteCells_length]; simp
    rcases Nat.eq_zero_or_pos j with hz | hp
    · subst hz
      rw [hiL, List.append_nil] at hpre
      rw [hpre] at hbld
      have HP := Lib.hid hpre
      clear hpre
      go_wp2_with fail
      refine (String_b _ _ w.heap.size _ _ hbld (Nat.le_refl _)).mono ?_
      rintro e W3 ⟨rfl, hb3⟩
      go_wp2
      go_ret
      exact ⟨rfl, (hkept.below hbel (Nat.le_refl _) (by omega)).trans hb3⟩
    · have key : ∀ i : Nat, j = i + 1 → ∀ c : Int, c = ((UInt8.ofNat (n / 256 ^ i % 256)).toNat : Int) → ∀ W3, Bld w.heap.size (w.heap.size + 1) (Lib.byteCells (UInt8.ofNat (wd n) :: pre) ++ [.int .u8 c]) W3 →
          pre ++ [UInt8.ofNat (n / 256 ^ i % 256)] ++ hiL n i = hiL n (wd n) ∧ Bld w.heap.size (w.heap.size + 1) (Lib.byteCells (UInt8.ofNat (wd n) :: (pre ++ [UInt8.ofNat (n / 256 ^ i % 256)]))) W3 := by
        intro i hi c hc W3 hb
        subst hi
        refine ⟨by rw [← hpre]; simp [hiL], ?_⟩
        subst hc
        have e : Lib.byteCells (UInt8.ofNat (wd n) :: (pre ++ [UInt8.ofNat (n / 256 ^ i % 256)])) = Lib.byteCells (UInt8.ofNat (wd n) :: pre) ++ [.int .u8 ((UInt8.ofNat (n / 256 ^ i % 256)).toNat : Int)] := by simp [Lib.byteCells]
        rw [e]
        exact hb
      have hj3 : j = 1 ∨ j = 2 ∨ j = 3 := by omega
      have HK := Lib.hid key
      have HPR := Lib.hid hpre
      clear key hpre
      have d0 : ((n : Int) % 256) = ((UInt8.ofNat (n / 256 ^ 0 % 256)).toNat : Int) := by rw [c_eq]; simp
      have d1 : ((n : Int) / 256 % 256) = ((UInt8.ofNat (n / 256 ^ 1 % 256)).toNat : Int) := by rw [c_eq]; simp
      have d2 : ((n : Int) / 65536) = ((UInt8.ofNat (n / 256 ^ 2 % 256)).toNat : Int) := by rw [c_eq]; simp only [Nat.reducePow]; omega
      have D := Lib.hid (And.intro d0 (And.intro d1 d2))
      clear d0 d1 d2
      rcases hj3 with rfl | rfl | rfl
      · go_wp2_with fail
        refine (WriteByte_b _ _ _ _ _ hbld (by omega) (by omega)).mono ?_
        rintro e W3 ⟨rfl, hb3, hk3⟩
        have q := HK.out 0 rfl _ D.out.1 W3 hb3
        clear hb3
        go_wp2
        go_roundw
        case rel => exact ⟨0, pre ++ [UInt8.ofNat (n / 256 ^ 0 % 256)], by omega, by go_num, q.1, by rw [List.length_append, List.length_singleton]; omega, q.2, hkept.trans hk3⟩
        case measure => simp [intOf]
      · go_wp2_with fail
        refine (WriteByte_b _ _ _ _ _ hbld (by omega) (by omega)).mono ?_
        rintro e W3 ⟨rfl, hb3, hk3⟩
        have q := HK.out 1 rfl _ D.out.2.1 W3 hb3
        clear hb3
        go_wp2
        go_roundw
        case rel => exact ⟨1, pre ++ [UInt8.ofNat (n / 256 ^ 1 % 256)], by omega, by go_num, q.1, by rw [List.length_append, List.length_singleton]; omega, q.2, hkept.trans hk3⟩
        case measure => simp [intOf]
      · go_wp2_with fail
        refine (WriteByte_b _ _ _ _ _ hbld (by omega) (by omega)).mono ?_
        rintro e W3 ⟨rfl, hb3, hk3⟩
        have q := HK.out 2 rfl _ D.out.2.2 W3 hb3
        clear hb3
        go_wp2
        go_roundw
        case rel => exact ⟨2, pre ++ [UInt8.ofNat (n / 256 ^ 2 % 256)], by omega, by go_num, q.1, by rw [List.length_append, List.length_singleton]; omega, q.2, hkept.trans hk3⟩
        case measure => simp [intOf]
def num_Put.f (a0 : Int) : Option ByteArray := if 0 ≤ a0 then (if a0 < 16777216 then some ⟨(putL a0.toNat).toArray⟩ else none) else none
theorem num_Put.calls (a0 : Int) (r : ByteArray) (w : World) (h : num_Put.f a0 = some r) :
    Calls Try.prog 90 #[.int .u64 a0] w fun e w' => e = .returned (.string r) ∧ Below w.heap.size w w' := by
  unfold num_Put.f at h
  split at h
  · rename_i h0
    split at h
    · rename_i h1
      obtain rfl := Option.some.inj h
      obtain ⟨n, rfl⟩ := Int.eq_ofNat_of_zero_le h0
      exact put_n n (by omega) w
    · cases h
  · cases h
/-- Numbers as bytes: how many, and they. -/
def listL (l : List Int) : List UInt8 := putL l.length ++ (l.map fun x => putL x.toNat).flatten
def num_List.f (l0 : List Int) : Option ByteArray := if l0.length ≤ 1000 then (if ∀ x ∈ l0, x < 16777216 then some ⟨(listL l0).toArray⟩ else none) else none
theorem putL_length (n : Nat) : (putL n).length ≤ 4 := by
  have : ∀ j, (hiL n j).length = j := by
    intro j
    induction j with
    | zero => rfl
    | succ j ih => simp [hiL, ih]
  have := this (wd n)
  have h3 := wd_le n
  simp [putL, this]
  omega
theorem putS (n : Nat) : (⟨(putL n).toArray⟩ : ByteArray).size = (putL n).length := by simp [ByteArray.size]
theorem flat_length (l : List Int) : ((l.map fun x => putL x.toNat).flatten).length ≤ 4 * l.length := by
  induction l with
  | nil => simp
  | cons x l ih =>
    have := putL_length x.toNat
    simp only [List.map_cons, List.flatten_cons, List.length_append, List.length_cons]
    omega
theorem flat_take (l : List Int) (k : Nat) (h : k < l.length) : ((l.take (k + 1)).map fun x => putL x.toNat).flatten = ((l.take k).map fun x => putL x.toNat).flatten ++ putL l[k].toNat := by
  rw [List.take_succ_eq_append_getElem h, List.map_append, List.flatten_append]
  simp only [List.map_cons, List.map_nil, List.flatten_cons, List.flatten_nil, List.append_nil]
theorem Bld.below {b B : Nat} {l : List Value} {w w' : World} (h : Bld b B l w) (hb : Below w.heap.size w w') : Bld b B l w' := Bld.of_grown h ⟨hb.os, hb.tape, hb.output, hb.size, fun k hk _ => hb.block k hk⟩
theorem KeptB.of_below {b B : Nat} {w w' : World} (hB : B ≤ w.heap.size) (hb : Below w.heap.size w w') : KeptB b B w w' := ⟨hb.os, hb.tape, hb.output, hb.size, fun k hk _ => hb.block k (by omega)⟩
attribute [local go_sem] max2_int
set_option maxHeartbeats 4000000 in
set_option maxRecDepth 100000 in
theorem list_n (A : Option Addr) (c : Nat) (l : List Int) (w : World) (hr : Kd.C (Kd.int .i64) w A l.length l) (hl : l.length ≤ 1000) (hx : ∀ x ∈ l, x < 16777216) :
    Calls Try.prog 63 #[.slice A l.length c] w fun e w' => e = .returned (.string ⟨(listL l).toArray⟩) ∧ Below w.heap.size w w' := by
  have HR := Lib.hid hr
  have HX := Lib.hid hx
  clear hr hx
  have hB0 : Bld w.heap.size (w.heap.size + 1) [] (w.alloc (.cells #[.pointer none, .slice none 0 0] 125)) := Bld.new (heap_alloc_new w _) (by omega)
  have hbel : Below w.heap.size w (w.alloc (.cells #[.pointer none, .slice none 0 0] 125)) := below_alloc (Below.refl _ _) _
  have hs0 : (w.alloc (.cells #[.pointer none, .slice none 0 0] 125)).heap.size = w.heap.size + 1 := by simp
  go_enter Try.func63, Try.ntmps63
  go_wp2_with fail
  generalize w.alloc (.cells #[.pointer none, .slice none 0 0] 125) = W0 at hB0 hbel hs0 ⊢
  refine calls_of_args (args' := #[.int .u64 (l.length : Int)]) (by first | rfl | (congr 1; omega)) ?_
  refine (put_n l.length (by omega) W0).mono ?_
  rintro e W1 ⟨rfl, hb1⟩
  have hB1 := Bld.below hB0 hb1
  have hK1 := KeptB.of_below (b := w.heap.size) (B := w.heap.size + 1) (by omega) hb1
  have hs1 := hb1.size
  clear hb1 hB0
  go_wp2_with fail
  refine (WriteString_b _ _ _ _ _ hB1 (by have := putL_length l.length; rw [putS]; simp; omega) (by omega)).mono ?_
  rintro e W2 ⟨rfl, hB2, hK2⟩
  have hB2' : Bld w.heap.size (w.heap.size + 1) (Lib.byteCells (putL l.length ++ ((l.take 0).map fun x => putL x.toNat).flatten)) W2 := by
    have e : Lib.byteCells (putL l.length ++ ((l.take 0).map fun x => putL x.toNat).flatten) = [] ++ Lib.strCells ⟨(putL l.length).toArray⟩ := by
      simp [Lib.strCells, Lib.byteCells]
    rw [e]
    exact hB2
  have hK := hK1.trans hK2
  clear hB2 hB1 hK1 hK2 hs1
  go_wp2
  go_loopw [13] (fun vi wr => ∃ k : Nat, k ≤ l.length ∧ vi = .int .i64 (k : Int) ∧ Bld w.heap.size (w.heap.size + 1) (Lib.byteCells (putL l.length ++ ((l.take k).map fun x => putL x.toNat).flatten)) wr ∧ KeptB w.heap.size (w.heap.size + 1) W0 wr) (fun vi => fun _ => l.length - (intOf vi).toNat)
  case atStart => exact ⟨0, Nat.zero_le _, rfl, hB2', hK⟩
  case round =>
    obtain ⟨k, hk, rfl, hbld, hkept⟩ := hrel
    clear hB2' hK
    have hszr := hkept.size
    rw [hs0] at hszr
    by_cases hlt : k < l.length
    · obtain ⟨ad, hA, hrow⟩ := HR.out.2.2 (by omega)
      obtain ⟨cs, hcs, hK0, hcell⟩ := hrow k l[k] (List.getElem?_eq_getElem hlt)
      have hcs1 : cs = [.int .i64 l[k]] := hK0
      have hc0 : w.cell? (ad.add k) = some (.int .i64 l[k]) := by
        have this : w.cell? (ad.add (k * 1 + 0)) = some (.int .i64 l[k]) := hcell 0 (.int .i64 l[k]) (by rw [hcs1]; rfl)
        rw [show k * 1 + 0 = k by omega] at this
        exact this
      have hblk := World.block_lt_of_cell? w _ hc0
      have hc1 : wr.cell? (ad.add k) = some (.int .i64 l[k]) := by
        rw [World.cell?_of_block ((hkept.block _ (by omega) (by omega)).trans (hbel.block _ hblk))]
        exact hc0
      have hx0 : l[k] < 16777216 := HX.out _ (List.getElem_mem hlt)
      have hft := flat_take l k hlt
      have hfl := flat_length (l.take k)
      have hpl := putL_length l.length
      have hpx := putL_length l[k].toNat
      subst hA
      clear hrow hcell hcs1 hK0 hc0 hblk
      generalize l[k] = x at hc1 hx0 hft hpx
      have hlen : (Lib.byteCells (putL l.length ++ ((l.take k).map fun x => putL x.toNat).flatten)).length ≤ 4 + 4 * 1000 := by
        rw [Lib.byteCells_length, List.length_append]
        rw [List.length_take] at hfl
        omega
      clear hfl hpl
      have HF := Lib.hid (And.intro hft (And.intro hpx hlen))
      clear hft hpx hlen
      go_wp2_with fail
      refine calls_of_args (args' := #[.int .u64 (x.toNat : Int)]) ?_ ?_
      · rw [show max x 0 = (x.toNat : Int) by omega]
      refine (put_n x.toNat (by omega) wr).mono ?_
      rintro e W3 ⟨rfl, hb3⟩
      have hB3 := Bld.below hbld hb3
      have hK3 := hkept.trans (KeptB.of_below (b := w.heap.size) (B := w.heap.size + 1) (by omega) hb3)
      have hs3 := hb3.size
      clear hb3 hbld hkept
      go_wp2_with fail
      refine (WriteString_b _ _ _ _ _ hB3 (by have h1_ := HF.out.2.1; have h2_ := HF.out.2.2; rw [putS]; omega) (by omega)).mono ?_
      rintro e W4 ⟨rfl, hB4, hK4⟩
      have hB4' : Bld w.heap.size (w.heap.size + 1) (Lib.byteCells (putL l.length ++ ((l.take (k + 1)).map fun x => putL x.toNat).flatten)) W4 := by
        rw [HF.out.1, ← List.append_assoc, Lib.byteCells_append]
        exact hB4
      have hK5 := hK3.trans hK4
      clear hB4 hB3 hK3 hK4
      go_wp2
      go_roundw
      case rel => exact ⟨k + 1, by omega, by go_num, hB4', hK5⟩
      case measure => simp [intOf]; omega
    · have hkl : k = l.length := by omega
      subst hkl
      go_wp2_with fail
      refine (String_b _ _ w.heap.size _ _ hbld (Nat.le_refl _)).mono ?_
      rintro e W3 ⟨rfl, hb3⟩
      go_wp2
      go_ret
      refine ⟨?_, (hkept.below hbel (Nat.le_refl _) (by omega)).trans hb3⟩
      rfl
theorem num_List.calls (A0 : Option Addr) (c0 : Nat) (l0 : List Int) (r : ByteArray) (w : World) (hr0 : Kd.C (Kd.int .i64) w A0 l0.length l0) (_hc0 : l0.length ≤ c0) (h : num_List.f l0 = some r) :
    Calls Try.prog 63 #[.slice A0 l0.length c0] w fun e w' => e = .returned (.string r) ∧ Below w.heap.size w w' := by
  unfold num_List.f at h
  split at h
  · rename_i h0
    split at h
    · rename_i h1
      obtain rfl := Option.some.inj h
      exact list_n A0 c0 l0 w hr0 h0 h1
    · cases h
  · cases h
end Go.Proofs.Ytjjcfipnainpiab.X
