/- What num's words compute at numbers below 2^24, told by plain words: bytes come back. -/
import Derived.Test.YtjjcfipnainpiabPPutsx9
import Derived.Test.YtjjcfipnainpiabNum
namespace Go.Proofs.Ytjjcfipnainpiab.X
open Go.RowKit Go.Proofs.Ytjjcfipnainpiab.PPuts Go.Proofs.YtjjcfipnainpiabW.PrintWords Go.Proofs.YtjjcfipnainpiabW.PrintLast Go.Proofs.YtjjcfipnainpiabW.PrintMore

abbrev BA (l : List UInt8) : ByteArray := ⟨l.toArray⟩
theorem BA_size (l : List UInt8) : (BA l).size = l.length := by simp [ByteArray.size]
theorem BA_append (a b : List UInt8) : BA a ++ BA b = BA (a ++ b) := by
  apply ByteArray.ext
  simp
theorem BA_extract (P C R : List UInt8) : (BA (P ++ (C ++ R))).extract P.length (P.length + C.length) = BA C := by
  apply ByteArray.ext
  rw [ByteArray.data_extract]
  simp
theorem wd_cases (n : Nat) (h : n < 16777216) : (n = 0 ∧ wd n = 0) ∨ (0 < n ∧ n < 256 ∧ wd n = 1) ∨ (256 ≤ n ∧ n < 65536 ∧ wd n = 2) ∨ (65536 ≤ n ∧ n < 16777216 ∧ wd n = 3) := by
  unfold wd
  split
  · omega
  · split
    · omega
    · split <;> omega
theorem ofNat_toNat (x : Nat) (h : x < 256) : (UInt8.ofNat x).toNat = x := by simp; omega
theorem hiL_0 (n : Nat) : hiL n 0 = [] := rfl
theorem hiL_1 (n : Nat) : hiL n 1 = [UInt8.ofNat (n % 256)] := by simp [hiL]
theorem hiL_2 (n : Nat) : hiL n 2 = [UInt8.ofNat (n / 256 % 256), UInt8.ofNat (n % 256)] := by simp [hiL]
theorem hiL_3 (n : Nat) : hiL n 3 = [UInt8.ofNat (n / 65536 % 256), UInt8.ofNat (n / 256 % 256), UInt8.ofNat (n % 256)] := by simp [hiL]
theorem hiL_len (n : Nat) : ∀ j, (hiL n j).length = j
  | 0 => rfl
  | j + 1 => by simp [hiL, hiL_len n j]
theorem big_hiL (n : Nat) (h : n < 16777216) : bigN (hiL n (wd n)) = n := by
  rcases wd_cases n h with ⟨h1, h2⟩ | ⟨h1, h3, h2⟩ | ⟨h1, h3, h2⟩ | ⟨h1, h3, h2⟩ <;> rw [h2]
  · rw [hiL_0, h1]; rfl
  · rw [hiL_1]
    show 0 * 256 + (UInt8.ofNat (n % 256)).toNat = n
    rw [ofNat_toNat _ (by omega)]; omega
  · rw [hiL_2]
    show (0 * 256 + (UInt8.ofNat (n / 256 % 256)).toNat) * 256 + (UInt8.ofNat (n % 256)).toNat = n
    rw [ofNat_toNat _ (by omega), ofNat_toNat _ (by omega)]; omega
  · rw [hiL_3]
    show ((0 * 256 + (UInt8.ofNat (n / 65536 % 256)).toNat) * 256 + (UInt8.ofNat (n / 256 % 256)).toNat) * 256 + (UInt8.ofNat (n % 256)).toNat = n
    rw [ofNat_toNat _ (by omega), ofNat_toNat _ (by omega), ofNat_toNat _ (by omega)]; omega
theorem width_f (n : Nat) (h : n < 16777216) (k : Nat) (hk : 5 ≤ k) : num_width.f k (n : Int) = some (wd n : Int) := by
  have st : ∀ (q m j : Nat), j ≤ 10 → num_width.l0 (q + 1) (m : Int) (j : Int) = if m = 0 then some (j : Int) else num_width.l0 q ((m / 256 : Nat) : Int) ((j + 1 : Nat) : Int) := by
    intro q m j hj
    rw [num_width.l0]
    by_cases c : m = 0
    · rw [if_neg (by omega), if_pos c]
    · rw [if_pos (by omega), if_neg c, wrap_id (by omega) (by omega)]
      rfl
  obtain ⟨q, rfl⟩ : ∃ q, k = q + 5 := ⟨k - 5, by omega⟩
  have h0 : num_width.f (q + 5) (n : Int) = num_width.l0 (q + 4 + 1) (n : Int) ((0 : Nat) : Int) := rfl
  rw [h0, st _ _ _ (by omega)]
  rcases wd_cases n h with ⟨h1, h2⟩ | ⟨h1, h3, h2⟩ | ⟨h1, h3, h2⟩ | ⟨h1, h3, h2⟩ <;> rw [h2]
  · rw [if_pos h1]
  · rw [if_neg (by omega), show q + 4 = q + 3 + 1 from rfl, st _ _ _ (by omega), if_pos (by omega)]
  · rw [if_neg (by omega), show q + 4 = q + 3 + 1 from rfl, st _ _ _ (by omega), if_neg (by omega), show q + 3 = q + 2 + 1 from rfl, st _ _ _ (by omega), if_pos (by omega)]
  · rw [if_neg (by omega), show q + 4 = q + 3 + 1 from rfl, st _ _ _ (by omega), if_neg (by omega), show q + 3 = q + 2 + 1 from rfl, st _ _ _ (by omega), if_neg (by omega), show q + 2 = q + 1 + 1 from rfl, st _ _ _ (by omega), if_pos (by omega)]
theorem take_f (P C R : List UInt8) (hl : (P ++ (C ++ R)).length ≤ 1000000) : num_Source_Take.f (BA (P ++ (C ++ R))) (P.length : Int) 0 (C.length : Int) = some (BA C, BA (P ++ (C ++ R)), ((P ++ C).length : Int), 0) := by
  have hl' : P.length + (C.length + R.length) ≤ 1000000 := by simpa using hl
  have hs : ((BA (P ++ (C ++ R))).size : Int) = (P.length : Int) + ((C.length : Int) + (R.length : Int)) := by rw [BA_size]; simp
  have e1 : wrap64 ((P.length : Int) + (C.length : Int)) = ((P.length + C.length : Nat) : Int) := by rw [wrap_id (by omega) (by omega)]; omega
  unfold num_Source_Take.f
  rw [if_neg (by omega)]
  unfold num_Source_Left.f
  rw [Option.bind_some]
  dsimp only
  rw [hs, wrap_id (x := (P.length : Int) + ((C.length : Int) + (R.length : Int)) - (P.length : Int)) (by omega) (by omega), if_neg (by omega), if_pos (by omega), e1, if_pos (by omega), if_pos (by omega), Int.toNat_natCast, Int.toNat_natCast, BA_extract, List.length_append]
theorem toList_BA (C : List UInt8) : (BA C).toList = C := by rw [ByteArray.toList_eq]
theorem bt_BA (x : UInt8) : bt (BA [x]) 0 = (x.toNat : Int) := by
  unfold bt
  rw [dif_pos (show (0 : Int).toNat < (BA [x]).size by rw [BA_size]; simp)]
  rfl
/-- A number comes back. -/
theorem num_f (P R : List UInt8) (n lim : Nat) (hn : n < 16777216) (hlim : n ≤ lim) (hl : (P ++ (putL n ++ R)).length ≤ 1000000) (k : Nat) (hk : 10 ≤ k) :
    num_Source_Num.f k (BA (P ++ (putL n ++ R))) (P.length : Int) 0 (lim : Int) = some ((n : Int), BA (P ++ (putL n ++ R)), ((P ++ putL n).length : Int), 0) := by
  have h3 := wd_le n
  have hw : (UInt8.ofNat (wd n)).toNat = wd n := ofNat_toNat _ (by omega)
  have e1 : P ++ (putL n ++ R) = P ++ ([UInt8.ofNat (wd n)] ++ (hiL n (wd n) ++ R)) := by simp [putL]
  have e2 : P ++ (putL n ++ R) = (P ++ [UInt8.ofNat (wd n)]) ++ (hiL n (wd n) ++ R) := by simp [putL]
  have t1 := take_f P [UInt8.ofNat (wd n)] (hiL n (wd n) ++ R) (by rw [← e1]; exact hl)
  rw [← e1] at t1
  have t2 := take_f (P ++ [UInt8.ofNat (wd n)]) (hiL n (wd n)) R (by rw [← e2]; exact hl)
  rw [← e2, hiL_len] at t2
  have hsz : ((BA [UInt8.ofNat (wd n)]).size : Int) = 1 := by rw [BA_size]; rfl
  have hbig : num_big.f (BA (hiL n (wd n))) = some (n : Int) := by
    unfold num_big.f
    rw [if_pos (by rw [BA_size, hiL_len]; omega)]
    show some ((bigN (hiL n (wd n)) : Nat) : Int) = _
    rw [big_hiL n hn]
  unfold num_Source_Num.f
  rw [show (1 : Int) = (([UInt8.ofNat (wd n)].length : Nat) : Int) from rfl, t1, Option.bind_some]
  dsimp only
  rw [toList_BA, if_neg (by simp), hsz, if_pos (by omega), bt_BA, hw, wrap_id (x := (wd n : Int)) (by omega) (by omega), if_neg (by omega), t2, Option.bind_some]
  dsimp only
  rw [hbig, Option.bind_some, width_f n hn k (by omega), Option.bind_some, if_pos rfl, if_neg (by omega)]
  simp [putL]
theorem int_f (P R : List UInt8) (n lim : Nat) (hn : n < 16777216) (hlim : n ≤ lim) (hlim2 : lim < 16777216) (hl : (P ++ (putL n ++ R)).length ≤ 1000000) (k : Nat) (hk : 10 ≤ k) :
    num_Source_Int.f k (BA (P ++ (putL n ++ R))) (P.length : Int) 0 (lim : Int) = some ((n : Int), BA (P ++ (putL n ++ R)), ((P ++ putL n).length : Int), 0) := by
  have hm : IntKind.u64.wrap (mx (lim : Int) 0) = (lim : Int) := by
    have : mx (lim : Int) 0 = (lim : Int) := by unfold mx; split <;> omega
    rw [this]
    simp [IntKind.wrap, IntKind.bits, IntKind.signed]
    omega
  unfold num_Source_Int.f
  rw [hm, num_f P R n lim hn hlim hl k hk, Option.bind_some]
  dsimp only
  rw [wrap_id (by omega) (by omega)]
/-- Numbers as bytes, one behind the other. -/
def flatL (l : List Int) : List UInt8 := (l.map fun x => putL x.toNat).flatten
theorem flatL_cons (x : Int) (l : List Int) : flatL (x :: l) = putL x.toNat ++ flatL l := rfl
theorem list_l0 (lim : Nat) (hlim2 : lim < 16777216) (N : Nat) (hN : N ≤ 1000) (all : ByteArray) : ∀ (s p : List Int) (P R : List UInt8), (p ++ s).length = N → all = BA (P ++ (flatL s ++ R)) → (P ++ (flatL s ++ R)).length ≤ 1000000 → (∀ x ∈ s, 0 ≤ x ∧ x ≤ lim) → ∀ k, 12 + s.length ≤ k →
    num_Source_List.l0 k (lim : Int) (N : Int) p all (P.length : Int) 0 = some (p ++ s, all, ((P ++ flatL s).length : Int), 0) := by
  intro s
  induction s with
  | nil =>
    intro p P R hp hall hl hx k hk
    obtain ⟨k, rfl⟩ : ∃ q, k = q + 1 := ⟨k - 1, by simp at hk; omega⟩
    rw [List.append_nil] at hp
    rw [num_Source_List.l0, if_neg (by omega)]
    unfold num_Source_Err.f
    rw [Option.bind_some]
    dsimp only
    rw [if_pos rfl, List.append_nil]
    simp [flatL]
  | cons x s ih =>
    intro p P R hp hall hl hx k hk
    obtain ⟨k, rfl⟩ : ∃ q, k = q + 1 := ⟨k - 1, by simp at hk; omega⟩
    have hp' : p.length + (s.length + 1) = N := by rw [← hp]; simp
    obtain ⟨hx0, hx1⟩ := hx x List.mem_cons_self
    obtain ⟨n, rfl⟩ := Int.eq_ofNat_of_zero_le hx0
    have hn : n ≤ lim := by omega
    have e1 : P ++ (flatL ((n : Int) :: s) ++ R) = P ++ (putL n ++ (flatL s ++ R)) := by rw [flatL_cons, Int.toNat_natCast]; simp
    have e2 : P ++ (flatL ((n : Int) :: s) ++ R) = (P ++ putL n) ++ (flatL s ++ R) := by rw [e1]; simp
    have hi := int_f P (flatL s ++ R) n lim (by omega) hn hlim2 (by rw [← e1]; exact hl) k (by simp at hk; omega)
    rw [← e1, ← hall] at hi
    rw [num_Source_List.l0, if_pos (by omega)]
    unfold num_Source_Err.f
    rw [Option.bind_some]
    dsimp only
    rw [if_pos rfl, hi, Option.bind_some]
    dsimp only
    rw [if_pos (by omega)]
    have := ih (p ++ [(n : Int)]) (P ++ putL n) R (by rw [← hp]; simp) (by rw [← e2]; exact hall) (by rw [← e2]; exact hl) (fun y hy => hx y (List.mem_cons_of_mem _ hy)) k (by simp at hk; omega)
    rw [this]
    simp [flatL_cons]
/-- Rows of numbers come back. -/
theorem list_f (P R : List UInt8) (l : List Int) (lim many : Nat) (hlim2 : lim < 16777216) (hl : l.length ≤ many) (hm : many ≤ 1000) (hx : ∀ x ∈ l, 0 ≤ x ∧ x ≤ (lim : Int)) (hs : (P ++ (listL l ++ R)).length ≤ 1000000) (k : Nat) (hk : 20 + l.length ≤ k) :
    num_Source_List.f k (BA (P ++ (listL l ++ R))) (P.length : Int) 0 (many : Int) (lim : Int) = some (l, BA (P ++ (listL l ++ R)), ((P ++ listL l).length : Int), 0) := by
  have e1 : P ++ (listL l ++ R) = P ++ (putL l.length ++ (flatL l ++ R)) := by unfold listL flatL; simp
  have e2 : P ++ (listL l ++ R) = (P ++ putL l.length) ++ (flatL l ++ R) := by rw [e1]; simp
  have hi := int_f P (flatL l ++ R) l.length many (by omega) hl (by omega) (by rw [← e1]; exact hs) k (by omega)
  rw [← e1] at hi
  unfold num_Source_List.f
  rw [hi, Option.bind_some]
  dsimp only
  have := list_l0 lim hlim2 l.length (by omega) (BA (P ++ (listL l ++ R))) l [] (P ++ putL l.length) R rfl (by rw [← e2]) (by rw [← e2]; exact hs) hx k (by omega)
  rw [this]
  unfold listL flatL
  simp
end Go.Proofs.Ytjjcfipnainpiab.X
