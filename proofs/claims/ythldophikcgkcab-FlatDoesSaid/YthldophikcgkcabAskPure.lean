/- What need.May, need.Parts and the law's own Near, Odd, awake compute, told by plain words. -/
import Derived.Test.YthldophikcgkcabPFlatx2
import Derived.Test.YthldophikcgkcabPFlatx3
import Derived.Test.YthldophikcgkcabPFlatx4
import Derived.Test.YthldophikcgkcabPFlatx5
import Derived.Test.YthldophikcgkcabPFlatx6
import Derived.Test.YthldophikcgkcabNum
namespace Go.Proofs.Ythldophikcgkcab.X
open Go.RowKit Go.Proofs.Ythldophikcgkcab.PFlat Go.Proofs.YthldophikcgkcabW.PrintWords Go.Proofs.YthldophikcgkcabW.PrintLast Go.Proofs.YthldophikcgkcabW.PrintMore

/-- A whole number of the kind int. -/
def In (x : Int) : Prop := -9223372036854775808 ≤ x ∧ x ≤ 9223372036854775807
theorem in_of_wf {x : Int} (h : (Lit.int .i64 x).wf = true) : In x := by
  have e : IntKind.i64.min = -9223372036854775808 := by decide
  simp [Lit.wf] at h
  rw [e] at h
  exact h
theorem in_wrap (x : Int) : In (wrap64 x) := by unfold In wrap64; omega
def zeros : ByteArray := ⟨#[0, 0, 0, 0, 0, 0, 0, 0, 0, 0, 0, 0, 0, 0, 0, 0, 0, 0, 0, 0, 0, 0, 0, 0, 0, 0, 0, 0, 0, 0, 0, 0]⟩
theorem repeat_zeros : strings_Repeat.f (⟨#[0]⟩ : ByteArray) 32 = some zeros := by
  unfold strings_Repeat.f
  rw [if_pos (by omega), if_pos (by omega), if_pos (by decide)]
  rfl
/-- How much is asked for. -/
def size (w len : Int) (d : ByteArray) : Int := if w = 1 then (d.size : Int) else len
theorem size_f (w at' len : Int) (d : ByteArray) (s : Bool) : need_Size.f w at' len d s = some (size w len d) := by
  unfold need_Size.f size
  split <;> rfl
def Span (at' len n : Int) : Prop := 0 ≤ at' ∧ 1 ≤ len ∧ at' % 32 = 0 ∧ len % 32 = 0 ∧ len ≤ 128 ∧ at' / 32 ≤ n - len / 32
instance (a b c : Int) : Decidable (Span a b c) := by unfold Span; infer_instance
theorem tdiv_pos {x : Int} (h : 0 ≤ x) (n : Int) : Int.tdiv x n = x / n := Int.tdiv_eq_ediv_of_nonneg h
theorem tmod_pos {x : Int} (h : 0 ≤ x) (n : Int) : Int.tmod x n = x % n := Int.tmod_eq_emod_of_nonneg h
theorem span_f {at' len n : Int} (h1 : In at') (h2 : In len) (h3 : 0 ≤ n ∧ n ≤ 64) : need_span.f at' len n = some (decide (Span at' len n)) := by
  obtain ⟨h1, h1'⟩ := h1
  obtain ⟨h2, h2'⟩ := h2
  obtain ⟨h3, h3'⟩ := h3
  have no : ¬ Span at' len n → some false = some (decide (Span at' len n)) := fun h => by rw [decide_eq_false h]
  unfold need_span.f
  by_cases c1 : at' < 0
  · rw [if_pos c1]; exact no (by unfold Span; omega)
  rw [if_neg c1]
  by_cases c2 : len < 1
  · rw [if_pos c2]; exact no (by unfold Span; omega)
  rw [if_neg c2, tmod_pos (by omega), tmod_pos (by omega), tdiv_pos (by omega), tdiv_pos (by omega)]
  by_cases c3 : at' % 32 = 0
  · rw [if_pos c3]
    by_cases c4 : len % 32 = 0
    · rw [if_pos c4, wrap_id (x := len / 32) (by omega) (by omega), wrap_id (x := at' / 32) (by omega) (by omega), wrap_id (x := n - len / 32) (by omega) (by omega)]
      by_cases c5 : len / 32 > 4
      · rw [if_pos c5]; exact no (by unfold Span; omega)
      · rw [if_neg c5]
        congr 1
        apply decide_eq_decide.mpr
        unfold Span
        omega
    · rw [if_neg c4]; exact no (by unfold Span; omega)
  · rw [if_neg c3]; exact no (by unfold Span; omega)
theorem mn_64 (n : Int) : mn n 64 = min n 64 := by unfold mn; split <;> omega
/-- What may be asked for. -/
def May (w at' len : Int) (d : ByteArray) (n : Int) : Prop := w = 3 ∨ (w = 0 ∨ w = 1 ∨ w = 2) ∧ Span at' (size w len d) (min n 64)
instance (w a b : Int) (d : ByteArray) (c : Int) : Decidable (May w a b d c) := by unfold May; infer_instance
theorem may_f {w at' len n : Int} {d : ByteArray} {s : Bool} (h1 : In at') (h2 : In len) (h3 : 0 ≤ n) (hd : d.size ≤ 9223372036854775807) (k : Nat) :
    need_May.f (k + 1) w at' len d s n = some (if May w at' len d n then 0 else 1) := by
  have hs : In (size w len d) := by
    unfold size In at *
    split <;> omega
  have hj : ∀ b : Bool, need_May.j0 (k + 1) n b w at' len d s = if b = true then some (if Span at' (size w len d) (min n 64) then 0 else 1) else some 1 := by
    intro b
    rw [need_May.j0]
    cases b
    · rfl
    · rw [if_pos rfl, if_pos rfl, size_f, Option.bind_some, mn_64, span_f h1 hs (by omega), Option.bind_some]
      by_cases c : Span at' (size w len d) (min n 64)
      · simp [c]
      · simp [c]
  unfold need_May.f
  by_cases c3 : w = 3
  · rw [if_pos c3, if_pos (show May w at' len d n from Or.inl c3)]
  rw [if_neg c3, hj, hj, hj]
  unfold May
  by_cases c0 : w = 0
  · subst c0; simp
  · by_cases c1 : w = 1
    · subst c1; simp
    · by_cases c2 : w = 2
      · subst c2; simp
      · simp [c0, c1, c2, c3]
theorem span_4 {a l n : Int} (h : Span a l n) : 1 ≤ l / 32 ∧ l / 32 ≤ 4 ∧ 32 * (l / 32) = l := by unfold Span at h; omega
/-- The i-th block of what is asked for. -/
def part (w at' : Int) (d : ByteArray) (i : Nat) : S106 := ⟨at' / 32 + (i : Int), (w != 0), if w = 1 then d.extract (32 * i) (32 * i + 32) else if w = 2 then zeros else ⟨#[]⟩⟩
theorem parts_l {w at' len : Int} {d : ByteArray} {s : Bool} (h1 : 0 ≤ at') (h1' : In at') (m : Nat) (hm : m ≤ 4) (hd : w = 1 → (32 * m : Nat) ≤ d.size) : ∀ (j i : Nat), i + j = m → ∀ k, j + 1 ≤ k →
    need_Parts.l0 k ((List.range i).map (part w at' d)) (m : Int) (i : Int) w at' len d s = some ((List.range m).map (part w at' d)) := by
  unfold In at h1'
  intro j
  induction j with
  | zero =>
    intro i hi k hk
    obtain ⟨k, rfl⟩ : ∃ q, k = q + 1 := ⟨k - 1, by omega⟩
    rw [need_Parts.l0, if_neg (by omega)]
    congr 3
  | succ j ih =>
    intro i hi k hk
    obtain ⟨k, rfl⟩ : ∃ q, k = q + 1 := ⟨k - 1, by omega⟩
    have hnext := ih (i + 1) (by omega) k (by omega)
    have hlen : ((List.range i).map (part w at' d)).length < 4398046511104 := by simp; omega
    have e1 : wrap64 ((i : Int) + 1) = ((i + 1 : Nat) : Int) := by rw [wrap_id (by omega) (by omega)]; omega
    have e2 : wrap64 ((i : Int) * 32) = ((32 * i : Nat) : Int) := by rw [wrap_id (by omega) (by omega)]; omega
    have e3 : wrap64 (((i + 1 : Nat) : Int) * 32) = ((32 * i + 32 : Nat) : Int) := by rw [wrap_id (by omega) (by omega)]; omega
    have e4 : wrap64 ((wrap64 (Int.tdiv at' 32)) + (i : Int)) = at' / 32 + (i : Int) := by
      rw [tdiv_pos h1, wrap_id (x := at' / 32) (by omega) (by omega), wrap_id (by omega) (by omega)]
    have hstep : ∀ x : S106, x = part w at' d i → (List.range i).map (part w at' d) ++ [x] = (List.range (i + 1)).map (part w at' d) := by
      rintro x rfl
      rw [List.range_succ, List.map_append]
      rfl
    rw [need_Parts.l0, if_pos (by omega), e1, e2, e3, e4]
    by_cases c1 : w = 1
    · have := hd c1
      rw [if_pos c1, if_pos (by omega), if_pos (by omega), if_pos (by omega), if_pos hlen, hstep _ ?_]
      · exact hnext
      · unfold part
        rw [if_pos c1]
        rfl
    · rw [if_neg c1]
      by_cases c2 : w = 2
      · rw [if_pos c2, repeat_zeros, Option.bind_some, if_pos hlen, hstep _ ?_]
        · exact hnext
        · unfold part
          rw [if_neg c1, if_pos c2]
      · rw [if_neg c2, if_pos hlen, hstep _ ?_]
        · exact hnext
        · unfold part
          rw [if_neg c1, if_neg c2]
/-- What becomes of what is asked for. -/
def parts (w at' len : Int) (d : ByteArray) (n : Int) : List S106 := if May w at' len d n ∧ w ≠ 3 then (List.range (size w len d / 32).toNat).map (part w at' d) else []
theorem parts_f {w at' len n : Int} {d : ByteArray} {s : Bool} (h1 : In at') (h2 : In len) (h3 : 0 ≤ n) (hd : d.size ≤ 9223372036854775807) (k : Nat) (hk : 10 ≤ k) :
    need_Parts.f k w at' len d s n = some (parts w at' len d n) := by
  obtain ⟨k, rfl⟩ : ∃ q, k = q + 1 := ⟨k - 1, by omega⟩
  unfold need_Parts.f parts
  rw [may_f h1 h2 h3 hd, Option.bind_some]
  by_cases c : May w at' len d n
  · rw [if_pos c, if_pos rfl]
    by_cases c3 : w = 3
    · subst c3
      rw [need_Parts.j0, if_pos (by decide), if_neg (by simp)]
    · have hsp : Span at' (size w len d) (min n 64) := by
        rcases c with c | c
        · exact absurd c c3
        · exact c.2
      obtain ⟨q1, q2, q3⟩ := span_4 hsp
      have hp := parts_l (w := w) (at' := at') (len := len) (d := d) (s := s) hsp.1 h1 (size w len d / 32).toNat (by omega) (by intro h; unfold size at q3 ⊢; rw [if_pos h] at q3 ⊢; omega) (size w len d / 32).toNat 0 (by omega) k (by omega)
      rw [need_Parts.j0, if_neg (by simpa using c3), size_f, Option.bind_some, tdiv_pos (by omega), wrap_id (by omega) (by omega), if_pos ⟨c, c3⟩]
      have e : ((size w len d / 32).toNat : Int) = size w len d / 32 := by omega
      rw [e] at hp
      exact hp
  · rw [if_neg c, if_neg (by decide), need_Parts.j0, if_pos rfl, if_neg (fun h => c h.1)]
/-- A thing asked for, as an int may say it. -/
def Ok (r : Int × Int × Int × ByteArray × Bool) : Prop := In r.1 ∧ In r.2.1 ∧ In r.2.2.1 ∧ r.2.2.2.1.size ≤ 9223372036854775807
theorem near_l {a2 x8 o0 o1 o2 w at' len : Int} {o3 : ByteArray} {o4 s : Bool} (h8 : x8 ≤ 4) (ho : o3.size ≤ 9223372036854775807) : ∀ (j : Nat) (x9 : Int) (d : ByteArray), 0 ≤ x9 → x8 - x9 ≤ j → d.size + 32 * j ≤ 200 →
    ∃ r, r.size ≤ 200 ∧ ∀ k, j + 1 ≤ k → tarnlaw28_Near.l0 k a2 x8 x9 o0 o1 o2 o3 o4 w at' len d s = some (w, at', len, r, s) := by
  intro j
  induction j with
  | zero =>
    intro x9 d h0 hj hd
    refine ⟨d, by omega, ?_⟩
    intro k hk
    obtain ⟨k, rfl⟩ : ∃ q, k = q + 1 := ⟨k - 1, by omega⟩
    rw [tarnlaw28_Near.l0, if_neg (by omega)]
  | succ j ih =>
    intro x9 d h0 hj hd
    by_cases c : x9 < x8
    · have e9 : wrap64 (x9 + 1) = x9 + 1 := wrap_id (by omega) (by omega)
      let y : List Int := [(wrap64 (97 + x9)) % 256, (wrap64 (48 + (Go.bits .and .i64 a2 63))) % 256, (wrap64 (48 + (Go.bits .and .i64 (a2 / 64) 63))) % 256]
      let c3 : ByteArray := (o3.extract 0 ((mn (o3.size : Int) 20) : Int).toNat)
      have hy : (strOfNums y).size = 3 := by rfl
      have hmn : 0 ≤ mn (o3.size : Int) 20 ∧ mn (o3.size : Int) 20 ≤ (o3.size : Int) ∧ mn (o3.size : Int) 20 ≤ 20 := by unfold mn; split <;> omega
      have hc3 : c3.size ≤ 20 := by
        show (o3.extract 0 _).size ≤ 20
        rw [ByteArray.size_extract]
        omega
      have hz : zeros.size = 32 := by rfl
      have hcut : ((((strOfNums y) ++ c3) ++ zeros).extract 0 32).size = 32 := by
        rw [ByteArray.size_extract, ByteArray.size_append, ByteArray.size_append, hy, hz]
        omega
      obtain ⟨r, hr, hk'⟩ := ih (x9 + 1) (d ++ ((((strOfNums y) ++ c3) ++ zeros).extract 0 32)) (by omega) (by omega) (by rw [ByteArray.size_append, hcut]; omega)
      refine ⟨r, hr, ?_⟩
      intro k hk
      obtain ⟨k, rfl⟩ : ∃ q, k = q + 1 := ⟨k - 1, by omega⟩
      rw [tarnlaw28_Near.l0, if_pos c, Option.bind_some, if_pos hmn.1, if_pos hmn.2.1, if_pos (by show (strOfNums y).size + c3.size ≤ _; omega)]
      show (some zeros).bind _ = _
      rw [Option.bind_some, if_pos (by show (strOfNums y ++ c3).size + zeros.size ≤ _; rw [ByteArray.size_append]; omega), if_pos (by decide), if_pos (by show (32 : Int) ≤ (((strOfNums y ++ c3) ++ zeros).size : Int); rw [ByteArray.size_append, ByteArray.size_append]; omega),
        if_pos (by show d.size + ((((strOfNums y) ++ c3) ++ zeros).extract 0 32).size ≤ _; omega), e9]
      exact hk' k (by omega)
    · refine ⟨d, by omega, ?_⟩
      intro k hk
      obtain ⟨k, rfl⟩ : ∃ q, k = q + 1 := ⟨k - 1, by omega⟩
      rw [tarnlaw28_Near.l0, if_neg c]
theorem mx_1 (x : Int) : 1 ≤ mx x 1 := by unfold mx; split <;> omega
theorem mn_4 {x : Int} (h : 1 ≤ x) : 1 ≤ mn 4 x ∧ mn 4 x ≤ 4 := by unfold mn; split <;> omega
theorem near_f {w at' len n m : Int} {d : ByteArray} {s : Bool} (hd : d.size ≤ 9223372036854775807) : ∃ r, Ok r ∧ ∀ k, 20 ≤ k → tarnlaw28_Near.f k w at' len d s n m = some r := by
  obtain ⟨q1, q2⟩ := mn_4 (mx_1 (wrap64 ((mx n 1) - (wrap64 (Int.tdiv (wrap64 ((Int.tmod (Go.bits .and .i64 at' 65535) (mx n 1)) * 32)) 32)))))
  have hn := mx_1 n
  have hw : In (Go.bits .and .i64 w 3) := by rw [and_3]; unfold In; omega
  have h0 : In 0 := by unfold In; omega
  unfold tarnlaw28_Near.f
  generalize mn 4 (mx (wrap64 ((mx n 1) - (wrap64 (Int.tdiv (wrap64 ((Int.tmod (Go.bits .and .i64 at' 65535) (mx n 1)) * 32)) 32)))) 1) = M at *
  generalize hat : wrap64 ((Int.tmod (Go.bits .and .i64 at' 65535) (mx n 1)) * 32) = A at *
  have hA : In A := hat ▸ in_wrap _
  have h8 : wrap64 (1 + Int.tmod (Go.bits .and .i64 len 255) M) ≤ 4 := by
    rw [and_255, tmod_pos (by omega)]
    have := Int.emod_nonneg (len % 256) (show M ≠ 0 by omega)
    have := Int.emod_lt_of_pos (len % 256) (show 0 < M by omega)
    rw [wrap_id (by omega) (by omega)]
    omega
  generalize wrap64 (1 + Int.tmod (Go.bits .and .i64 len 255) M) = X at *
  generalize Go.bits .and .i64 w 3 = W at *
  obtain ⟨r, hr, hl⟩ := near_l (a2 := m) (o0 := w) (o1 := at') (o2 := len) (w := W) (at' := A) (len := 0) (o4 := s) (s := s) h8 hd 4 0 (⟨#[]⟩ : ByteArray) (by omega) (by omega) (by decide)
  have hj : ∀ b : Bool, ∃ r, Ok r ∧ ∀ k, 20 ≤ k → tarnlaw28_Near.j0 k m X W b w at' len d s W A 0 (⟨#[]⟩ : ByteArray) s = some r := by
    intro b
    cases b
    · by_cases c : W = 1
      · refine ⟨(W, A, 0, r, s), ⟨hw, hA, h0, by show r.size ≤ _; omega⟩, ?_⟩
        intro k hk
        obtain ⟨k, rfl⟩ : ∃ q, k = q + 1 := ⟨k - 1, by omega⟩
        rw [tarnlaw28_Near.j0, if_neg (by decide), if_pos c]
        exact hl k (by omega)
      · refine ⟨(W, A, 0, ⟨#[]⟩, s), ⟨hw, hA, h0, by show (⟨#[]⟩ : ByteArray).size ≤ _; decide⟩, ?_⟩
        intro k hk
        obtain ⟨k, rfl⟩ : ∃ q, k = q + 1 := ⟨k - 1, by omega⟩
        rw [tarnlaw28_Near.j0, if_neg (by decide), if_neg c]
    · refine ⟨(W, A, wrap64 (32 * X), ⟨#[]⟩, s), ⟨hw, hA, in_wrap _, by show (⟨#[]⟩ : ByteArray).size ≤ _; decide⟩, ?_⟩
      intro k hk
      obtain ⟨k, rfl⟩ : ∃ q, k = q + 1 := ⟨k - 1, by omega⟩
      rw [tarnlaw28_Near.j0, if_pos rfl]
  by_cases c : W = 0
  · obtain ⟨r, h, hk⟩ := hj (W == 0)
    refine ⟨r, h, fun k hk' => ?_⟩
    rw [if_neg (show ¬ mx n 1 = 0 by omega), if_neg (show ¬ M = 0 by omega), if_pos c]
    exact hk k hk'
  · obtain ⟨r, h, hk⟩ := hj (W == 2)
    refine ⟨r, h, fun k hk' => ?_⟩
    rw [if_neg (show ¬ mx n 1 = 0 by omega), if_neg (show ¬ M = 0 by omega), if_neg c]
    exact hk k hk'
theorem odd_f {w at' len n o : Int} {d : ByteArray} {s : Bool} (hw : In w) (ha : In at') (hl : In len) (hd : d.size ≤ 9223372036854775807) : ∃ r, Ok r ∧ ∀ k, 20 ≤ k → tarnlaw28_Odd.f k w at' len d s n o = some r := by
  obtain ⟨r, ⟨r1, r2, r3, r4⟩, hk⟩ := near_f (w := w) (at' := at') (len := len) (n := n) (m := 1) (s := s) hd
  unfold tarnlaw28_Odd.f
  generalize Go.bits .and .i64 o 7 = O
  have key : ∀ x, Ok x → (∀ k, 20 ≤ k → (if O = 0 then (some (r.1, at', r.2.2.1, r.2.2.2.1, r.2.2.2.2)) else (if O = 1 then (some (r.1, r.2.1, len, r.2.2.2.1, r.2.2.2.2)) else (if O = 2 then (some (r.1, r.2.1, r.2.2.1, d, r.2.2.2.2)) else (if O = 3 then (some (w, r.2.1, r.2.2.1, r.2.2.2.1, r.2.2.2.2)) else (if O = 4 then (some (r.1, wrap64 (r.2.1 + 32), r.2.2.1, r.2.2.2.1, r.2.2.2.2)) else (if O = 5 then (some (r.1, r.2.1, wrap64 (r.2.2.1 + (wrap64 (1 + (Go.bits .and .i64 len 63)))), r.2.2.2.1, r.2.2.2.2)) else (some (r.1, r.2.1, r.2.2.1, r.2.2.2.1, r.2.2.2.2)))))))) = some x) → ∃ r, Ok r ∧ ∀ k, 20 ≤ k → (tarnlaw28_Near.f k w at' len d s n 1).bind (fun bt109 => (if O = 0 then (some (bt109.1, at', bt109.2.2.1, bt109.2.2.2.1, bt109.2.2.2.2)) else (if O = 1 then (some (bt109.1, bt109.2.1, len, bt109.2.2.2.1, bt109.2.2.2.2)) else (if O = 2 then (some (bt109.1, bt109.2.1, bt109.2.2.1, d, bt109.2.2.2.2)) else (if O = 3 then (some (w, bt109.2.1, bt109.2.2.1, bt109.2.2.2.1, bt109.2.2.2.2)) else (if O = 4 then (some (bt109.1, wrap64 (bt109.2.1 + 32), bt109.2.2.1, bt109.2.2.2.1, bt109.2.2.2.2)) else (if O = 5 then (some (bt109.1, bt109.2.1, wrap64 (bt109.2.2.1 + (wrap64 (1 + (Go.bits .and .i64 len 63)))), bt109.2.2.2.1, bt109.2.2.2.2)) else (some (bt109.1, bt109.2.1, bt109.2.2.1, bt109.2.2.2.1, bt109.2.2.2.2))))))))) = some r := by
    intro x hx h
    refine ⟨x, hx, fun k hk' => ?_⟩
    rw [hk k hk', Option.bind_some]
    exact h k hk'
  by_cases c0 : O = 0
  · exact key (r.1, at', r.2.2.1, r.2.2.2.1, r.2.2.2.2) ⟨r1, ha, r3, r4⟩ (fun _ _ => by rw [if_pos c0])
  by_cases c1 : O = 1
  · exact key (r.1, r.2.1, len, r.2.2.2.1, r.2.2.2.2) ⟨r1, r2, hl, r4⟩ (fun _ _ => by rw [if_neg c0, if_pos c1])
  by_cases c2 : O = 2
  · exact key (r.1, r.2.1, r.2.2.1, d, r.2.2.2.2) ⟨r1, r2, r3, hd⟩ (fun _ _ => by rw [if_neg c0, if_neg c1, if_pos c2])
  by_cases c3 : O = 3
  · exact key (w, r.2.1, r.2.2.1, r.2.2.2.1, r.2.2.2.2) ⟨hw, r2, r3, r4⟩ (fun _ _ => by rw [if_neg c0, if_neg c1, if_neg c2, if_pos c3])
  by_cases c4 : O = 4
  · exact key (r.1, wrap64 (r.2.1 + 32), r.2.2.1, r.2.2.2.1, r.2.2.2.2) ⟨r1, in_wrap _, r3, r4⟩ (fun _ _ => by rw [if_neg c0, if_neg c1, if_neg c2, if_neg c3, if_pos c4])
  by_cases c5 : O = 5
  · exact key (r.1, r.2.1, wrap64 (r.2.2.1 + (wrap64 (1 + (Go.bits .and .i64 len 63)))), r.2.2.2.1, r.2.2.2.2) ⟨r1, r2, in_wrap _, r4⟩ (fun _ _ => by rw [if_neg c0, if_neg c1, if_neg c2, if_neg c3, if_neg c4, if_pos c5])
  · exact key (r.1, r.2.1, r.2.2.1, r.2.2.2.1, r.2.2.2.2) ⟨r1, r2, r3, r4⟩ (fun _ _ => by rw [if_neg c0, if_neg c1, if_neg c2, if_neg c3, if_neg c4, if_neg c5])
end Go.Proofs.Ythldophikcgkcab.X
