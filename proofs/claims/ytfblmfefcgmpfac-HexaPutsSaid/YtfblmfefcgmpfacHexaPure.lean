/- What hexa's functions and the reference's compute, as plain functions on lists of bytes. -/
import Derived.Test.YtfblmfefcgmpfacPHexax
import Derived.Lib.SmallJoins
namespace Go.Proofs.Ytfblmfefcgmpfac.Pure
open Go.RowKit Go.Proofs.Ytfblmfefcgmpfac.PHexa Go.Proofs.YtfblmfefcgmpfacW.PrintWords Go.Proofs.YtfblmfefcgmpfacW.PrintLast Go.Proofs.YtfblmfefcgmpfacW.PrintMore Go.Proofs.Ytfblmfefcgmpfac.X

abbrev bs (l : List UInt8) : ByteArray := ⟨l.toArray⟩
theorem bs_data (l : List UInt8) : (bs l).data.toList = l := rfl
theorem bs_of (s : ByteArray) : bs s.data.toList = s := Lib.mk_data s
theorem bs_size (l : List UInt8) : (bs l).size = l.length := rfl
theorem bs_eq {s : ByteArray} {l : List UInt8} (h : s.data.toList = l) : s = bs l := by subst h; exact (bs_of s).symm
theorem bs_app (a b : List UInt8) : bs a ++ bs b = bs (a ++ b) := bs_eq (by simp)
theorem bs_ext (l : List UInt8) (a b : Nat) : (bs l).extract a b = bs ((l.drop a).take (b - a)) := bs_eq (by rw [Lib.extract_data])
theorem bs_toList (l : List UInt8) : (bs l).toList = l := by rw [ByteArray.toList_eq]
theorem size_list (s : ByteArray) : s.size = s.data.toList.length := Lib.size_eq s
theorem bt_bs (l : List UInt8) (i : Nat) (h : i < l.length) : bt (bs l) (i : Int) = ((l[i]).toNat : Int) := by
  unfold bt
  rw [dif_pos (by simpa [bs_size] using h)]
  rfl
theorem wrap_id {x : Int} (h0 : -9223372036854775808 ≤ x) (h1 : x ≤ 9223372036854775807) : wrap64 x = x := by unfold wrap64; omega

/-- The number of a digit. -/
def dg (c : Int) : Option Int := if 48 ≤ c ∧ c ≤ 57 then some (c - 48) else if 97 ≤ c ∧ c ≤ 102 then some (c - 87) else if 65 ≤ c ∧ c ≤ 70 then some (c - 55) else none
theorem dg_range {c v : Int} (h : dg c = some v) : 0 ≤ v ∧ v < 16 := by
  unfold dg at h
  split at h
  · injection h; omega
  · split at h
    · injection h; omega
    · split at h
      · injection h; omega
      · cases h
theorem dg_none {c : Int} (h : c < 48 ∨ (57 < c ∧ c < 65) ∨ (70 < c ∧ c < 97) ∨ 102 < c) : dg c = none := by unfold dg; rw [if_neg (by omega), if_neg (by omega), if_neg (by omega)]
theorem dg_num {c : Int} (h : 48 ≤ c ∧ c ≤ 57) : dg c = some (c - 48) := by unfold dg; rw [if_pos (by omega)]
theorem dg_low {c : Int} (h : 97 ≤ c ∧ c ≤ 102) : dg c = some (c - 87) := by unfold dg; rw [if_neg (by omega), if_pos (by omega)]
theorem dg_up {c : Int} (h : 65 ≤ c ∧ c ≤ 70) : dg c = some (c - 55) := by unfold dg; rw [if_neg (by omega), if_neg (by omega), if_pos (by omega)]
theorem seven (c : Int) : c < 48 ∨ (48 ≤ c ∧ c ≤ 57) ∨ (57 < c ∧ c < 65) ∨ (65 ≤ c ∧ c ≤ 70) ∨ (70 < c ∧ c < 97) ∨ (97 ≤ c ∧ c ≤ 102) ∨ 102 < c := by omega

theorem digit_is (k : Nat) (c : Int) (h0 : 0 ≤ c) (h1 : c ≤ 255) : hexa_digit.f (k + 2) c = some (match dg c with | some v => (v, true) | none => (0, false)) := by
  simp only [hexa_digit.f, hexa_digit.j0, hexa_digit.j1, decide_eq_true_eq, Bool.false_eq_true, if_false]
  rcases seven c with h | h | h | h | h | h | h
  · rw [dg_none (by omega)]; repeat (first | rw [if_pos (by omega)] | rw [if_neg (by omega)])
  · rw [dg_num h]; repeat (first | rw [if_pos (by omega)] | rw [if_neg (by omega)])
    simp; omega
  · rw [dg_none (by omega)]; repeat (first | rw [if_pos (by omega)] | rw [if_neg (by omega)])
  · rw [dg_up h]; repeat (first | rw [if_pos (by omega)] | rw [if_neg (by omega)])
    simp; omega
  · rw [dg_none (by omega)]; repeat (first | rw [if_pos (by omega)] | rw [if_neg (by omega)])
  · rw [dg_low h]; repeat (first | rw [if_pos (by omega)] | rw [if_neg (by omega)])
    simp; omega
  · rw [dg_none (by omega)]; repeat (first | rw [if_pos (by omega)] | rw [if_neg (by omega)])
theorem ref_digit_is (k : Nat) (c : Int) (h0 : 0 ≤ c) (h1 : c ≤ 255) : tarnref44_digit.f (k + 2) c = some (match dg c with | some v => v | none => -1) := by
  have w0 := wrap_id (x := c) (by omega) (by omega)
  have w1 := wrap_id (x := c - 48) (by omega) (by omega)
  have w2 := wrap_id (x := c - 97) (by omega) (by omega)
  have w3 := wrap_id (x := c - 97 + 10) (by omega) (by omega)
  have w4 := wrap_id (x := c - 65) (by omega) (by omega)
  have w5 := wrap_id (x := c - 65 + 10) (by omega) (by omega)
  simp only [tarnref44_digit.f, tarnref44_digit.j0, tarnref44_digit.j1, decide_eq_true_eq, w0, w1, w2, w3, w4, w5, Bool.false_eq_true, if_false]
  rcases seven c with h | h | h | h | h | h | h
  · rw [dg_none (by omega)]; repeat (first | rw [if_pos (by omega)] | rw [if_neg (by omega)])
  · rw [dg_num h]; repeat (first | rw [if_pos (by omega)] | rw [if_neg (by omega)])
  · rw [dg_none (by omega)]; repeat (first | rw [if_pos (by omega)] | rw [if_neg (by omega)])
  · rw [dg_up h]; repeat (first | rw [if_pos (by omega)] | rw [if_neg (by omega)])
    simp; omega
  · rw [dg_none (by omega)]; repeat (first | rw [if_pos (by omega)] | rw [if_neg (by omega)])
  · rw [dg_low h]; repeat (first | rw [if_pos (by omega)] | rw [if_neg (by omega)])
    simp; omega
  · rw [dg_none (by omega)]; repeat (first | rw [if_pos (by omega)] | rw [if_neg (by omega)])

theorem digit_is' (k : Nat) (hk : 2 ≤ k) (c : Int) (h0 : 0 ≤ c) (h1 : c ≤ 255) : hexa_digit.f k c = some (match dg c with | some v => (v, true) | none => (0, false)) := by
  obtain ⟨m, rfl⟩ : ∃ m, k = m + 2 := ⟨k - 2, by omega⟩
  exact digit_is m c h0 h1
theorem ref_digit_is' (k : Nat) (hk : 2 ≤ k) (c : Int) (h0 : 0 ≤ c) (h1 : c ≤ 255) : tarnref44_digit.f k c = some (match dg c with | some v => v | none => -1) := by
  obtain ⟨m, rfl⟩ : ∃ m, k = m + 2 := ⟨k - 2, by omega⟩
  exact ref_digit_is m c h0 h1

/-- The bytes of digits; or where it is wrong. -/
def hx : List UInt8 → Nat → List UInt8 ⊕ Nat
  | [], _ => .inl []
  | [_], i => .inr i
  | a :: b :: l, i => match dg a.toNat, dg b.toNat with
    | none, _ => .inr i
    | some _, none => .inr (i + 1)
    | some x, some y => match hx l (i + 2) with
      | .inl r => .inl (UInt8.ofNat (x * 16 + y).toNat :: r)
      | .inr e => .inr e

theorem hx_len : ∀ (l : List UInt8) (i : Nat) (r : List UInt8), hx l i = .inl r → l.length = 2 * r.length
  | [], _, r, h => by simp [hx] at h; subst h; rfl
  | [_], _, r, h => by simp [hx] at h
  | a :: b :: l, i, r, h => by
    simp only [hx] at h
    split at h
    · cases h
    · cases h
    · split at h
      · rename_i r2 h2
        injection h with h
        subst h
        have := hx_len l _ _ h2
        simp; omega
      · cases h
theorem hx_at : ∀ (l : List UInt8) (i e : Nat), hx l i = .inr e → i ≤ e ∧ e < i + l.length
  | [], _, e, h => by simp [hx] at h
  | [_], i, e, h => by simp [hx] at h; subst h; simp
  | a :: b :: l, i, e, h => by
    simp only [hx] at h
    split at h
    · injection h; subst_vars; simp
    · injection h; subst_vars; simp
    · split at h
      · cases h
      · rename_i e2 h2
        injection h with h
        subst h
        have := hx_at l _ _ h2
        simp; omega

def told (x : List UInt8 ⊕ Nat) (acc : List UInt8) : ByteArray × Int × Int := match x with | .inl r => (bs (acc ++ r), 0, 0) | .inr e => (bs [], (e : Int), 440)
def toldR (x : List UInt8 ⊕ Nat) (acc : List UInt8) : ByteArray × Int := match x with | .inl r => (bs (acc ++ r), -1) | .inr e => (bs [], (e : Int))
theorem str_nums (l : List UInt8) : strOfNums (l.map fun b => (b.toNat : Int)) = bs l := by
  unfold strOfNums
  congr 2
  rw [List.map_map]
  conv => rhs; rw [← List.map_id l]
  apply List.map_congr_left
  intro b _
  simp

theorem or_nibble (x y : Int) (hx0 : 0 ≤ x) (hx1 : x < 16) (hy0 : 0 ≤ y) (hy1 : y < 16) : Go.bits .or .u8 ((x * 16) % 256) y = x * 16 + y := by
  have : ∀ a b : Fin 16, Go.bits .or .u8 (((a.val : Int) * 16) % 256) (b.val : Int) = (a.val : Int) * 16 + (b.val : Int) := by decide
  have h := this ⟨x.toNat, by omega⟩ ⟨y.toNat, by omega⟩
  simp only [Int.toNat_of_nonneg hx0, Int.toNat_of_nonneg hy0] at h
  exact h

theorem drop_two (s : List UInt8) (i : Nat) (h : i + 1 < s.length) : s.drop i = s[i] :: s[i + 1] :: s.drop (i + 2) := by
  rw [List.drop_eq_getElem_cons (by omega), List.drop_eq_getElem_cons (by omega)]
theorem byte_range (b : UInt8) : 0 ≤ (b.toNat : Int) ∧ (b.toNat : Int) ≤ 255 := by have := b.toNat_lt; omega

theorem get_loop (s : List UInt8) (hs : s.length ≤ 140737488355000) : ∀ (n i : Nat) (acc : List UInt8) (k : Nat), s.length - i ≤ n → i ≤ s.length → acc.length ≤ i → n + 4 ≤ k →
    hexa_Get.l0 k (bs s) (acc.map fun b => (b.toNat : Int)) (i : Int) = some (told (hx (s.drop i) i) acc) := by
  intro n
  induction n with
  | zero =>
    intro i acc k hn hi ha hk
    obtain ⟨k, rfl⟩ : ∃ m, k = m + 1 := ⟨k - 1, by omega⟩
    simp only [hexa_Get.l0]
    rw [if_neg (by rw [bs_size]; omega), List.drop_eq_nil_of_le (by omega), str_nums]
    simp [hx, told]
  | succ n ih =>
    intro i acc k hn hi ha hk
    obtain ⟨k, rfl⟩ : ∃ m, k = m + 1 := ⟨k - 1, by omega⟩
    simp only [hexa_Get.l0]
    by_cases h0 : i < s.length
    · rw [if_pos (by rw [bs_size]; omega), wrap_id (by omega) (by omega)]
      by_cases h1 : i + 1 = s.length
      · rw [if_pos (by rw [bs_size]; omega)]
        have : s.drop i = [s[i]] := by rw [List.drop_eq_getElem_cons h0, List.drop_eq_nil_of_le (by omega)]
        rw [this]
        simp [hx, told]
      · have h2 : i + 1 < s.length := by omega
        rw [if_neg (by rw [bs_size]; omega), if_pos (by omega), bt_bs s i h0, digit_is' _ (by omega) _ (byte_range _).1 (byte_range _).2, drop_two s i h2]
        simp only [Option.bind_some, hx]
        have e1 : ((i : Int) + 1) = ((i + 1 : Nat) : Int) := by omega
        rcases hd : dg (s[i].toNat : Int) with _ | x
        · simp [told]
        · simp only [if_true]
          rw [if_pos (by omega), if_pos (by rw [bs_size]; omega), e1, bt_bs s (i + 1) h2, digit_is' _ (by omega) _ (byte_range _).1 (byte_range _).2]
          simp only [Option.bind_some]
          rcases hd2 : dg (s[i + 1].toNat : Int) with _ | y
          · simp [told]
          · have rx := dg_range hd
            have ry := dg_range hd2
            simp only [if_true]
            rw [if_pos (by rw [List.length_map]; omega), wrap_id (by omega) (by omega), or_nibble x y rx.1 rx.2 ry.1 ry.2]
            have e2 : (i : Int) + 2 = ((i + 2 : Nat) : Int) := by omega
            have e3 : (acc.map fun b => (b.toNat : Int)) ++ [x * 16 + y] = (acc ++ [UInt8.ofNat (x * 16 + y).toNat]).map fun b => (b.toNat : Int) := by
              rw [List.map_append]
              congr 1
              simp
              omega
            rw [e2, e3, ih (i + 2) _ _ (by omega) (by omega) (by simp; omega) (by omega)]
            cases hx (s.drop (i + 2)) (i + 2) <;> simp [told]
    · rw [if_neg (by rw [bs_size]; omega), List.drop_eq_nil_of_le (by omega), str_nums]
      simp [hx, told]

theorem get_is (s : List UInt8) (hs : s.length ≤ 140737488355000) (k : Nat) (hk : s.length + 4 ≤ k) : hexa_Get.f k (bs s) = some (told (hx s 0) []) := by
  have := get_loop s hs s.length 0 [] k (by omega) (by omega) (by simp) hk
  simpa [hexa_Get.f] using this

theorem ref_loop (s : List UInt8) (hs : s.length ≤ 140737488355000) : ∀ (n i : Nat) (acc : List UInt8) (k : Nat), s.length - i ≤ n → i ≤ s.length → acc.length ≤ i → 2 * n + 6 ≤ k →
    tarnref44_Get.l0 k (bs s) (bs acc) (i : Int) = some (toldR (hx (s.drop i) i) acc) := by
  intro n
  induction n with
  | zero =>
    intro i acc k hn hi ha hk
    obtain ⟨k, rfl⟩ : ∃ m, k = m + 1 := ⟨k - 1, by omega⟩
    simp only [tarnref44_Get.l0]
    rw [if_neg (by rw [bs_size]; omega), List.drop_eq_nil_of_le (by omega)]
    simp [hx, toldR]
  | succ n ih =>
    intro i acc k hn hi ha hk
    obtain ⟨k, rfl⟩ : ∃ m, k = m + 2 := ⟨k - 2, by omega⟩
    simp only [tarnref44_Get.l0]
    by_cases h0 : i < s.length
    · rw [if_pos (by rw [bs_size]; omega), wrap_id (by omega) (by omega)]
      by_cases h1 : i + 1 = s.length
      · rw [if_pos (by rw [bs_size]; omega)]
        have : s.drop i = [s[i]] := by rw [List.drop_eq_getElem_cons h0, List.drop_eq_nil_of_le (by omega)]
        rw [this]
        simp [hx, toldR, tarnref44_Get.j1]
      · have h2 : i + 1 < s.length := by omega
        have e1 : ((i : Int) + 1) = ((i + 1 : Nat) : Int) := by omega
        rw [if_neg (by rw [bs_size]; omega), if_pos (by omega), bt_bs s i h0, ref_digit_is' _ (by omega) _ (byte_range _).1 (byte_range _).2, drop_two s i h2]
        simp only [Option.bind_some, hx, tarnref44_Get.j1]
        rcases hd : dg (s[i].toNat : Int) with _ | x
        · simp [toldR]
        · have rx := dg_range hd
          simp only [decide_eq_true_eq]
          rw [if_neg (by omega), wrap_id (by omega) (by omega), if_pos (by omega), if_pos (by rw [bs_size]; omega), e1, bt_bs s (i + 1) h2, ref_digit_is' _ (by omega) _ (byte_range _).1 (byte_range _).2]
          simp only [Option.bind_some]
          rcases hd2 : dg (s[i + 1].toNat : Int) with _ | y
          · simp [toldR]
          · have ry := dg_range hd2
            simp only []
            rw [if_neg (by omega), if_pos (by omega), if_pos (by rw [bs_size]; omega), bt_bs s i h0, ref_digit_is' _ (by omega) _ (byte_range _).1 (byte_range _).2]
            simp only [Option.bind_some, hd]
            rw [wrap_id (x := x * 16) (by omega) (by omega), wrap_id (x := x * 16 + y) (by omega) (by omega)]
            have e4 : strOfNums [(x * 16 + y) % 256] = bs [UInt8.ofNat (x * 16 + y).toNat] := by
              unfold strOfNums
              have : (x * 16 + y) % 256 = x * 16 + y := by omega
              simp [this]
            rw [e4, if_pos (by rw [bs_size, bs_size]; simp; omega), bs_app, wrap_id (by omega) (by omega)]
            have e2 : (i : Int) + 2 = ((i + 2 : Nat) : Int) := by omega
            rw [e2, ih (i + 2) _ _ (by omega) (by omega) (by simp; omega) (by omega)]
            cases hx (s.drop (i + 2)) (i + 2) <;> simp [toldR]
    · rw [if_neg (by rw [bs_size]; omega), List.drop_eq_nil_of_le (by omega)]
      simp [hx, toldR]

theorem ref_get_is (s : List UInt8) (hs : s.length ≤ 140737488355000) (k : Nat) (hk : 2 * s.length + 6 ≤ k) : tarnref44_Get.f k (bs s) = some (toldR (hx s 0) []) := by
  have := ref_loop s hs s.length 0 [] k (by omega) (by omega) (by simp) hk
  simpa [tarnref44_Get.f] using this

theorem dg_hexD : ∀ n : Fin 16, dg ((hexD n.val).toNat : Int) = some (n.val : Int) := by decide
/-- What was told in digits comes back. -/
theorem hx_hexL : ∀ (l : List UInt8) (i : Nat), hx (hexL l) i = .inl l
  | [], _ => rfl
  | b :: l, i => by
    have hb := b.toNat_lt
    have d1 := dg_hexD ⟨b.toNat / 16, by omega⟩
    have d2 := dg_hexD ⟨b.toNat % 16, by omega⟩
    simp only at d1 d2
    simp only [hexL, hx, d1, d2, hx_hexL l]
    congr 2
    apply UInt8.toNat_inj.mp
    simp
    omega
theorem put_is (s : List UInt8) (h : s.length ≤ 70368744177664) : hexa_Put.f (bs s) = some (bs (hexL s)) := by unfold hexa_Put.f; rw [if_pos (by rw [bs_size]; exact h)]
theorem ref_put_is (s : List UInt8) (h : s.length ≤ 70368744177664) : tarnref44_Put.f (bs s) = some (bs (hexL s)) := by unfold tarnref44_Put.f; rw [if_pos (by rw [bs_size]; exact h)]
end Go.Proofs.Ytfblmfefcgmpfac.Pure
