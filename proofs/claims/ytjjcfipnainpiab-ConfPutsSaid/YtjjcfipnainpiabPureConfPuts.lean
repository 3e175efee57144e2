/- A configuration that may be has the document's bytes, and comes back; which may be, which is none, which lists may be, is told as the document says; no conditions: for every configuration near one that may be. -/
import Derived.Test.YtjjcfipnainpiabPPutsx13
import Derived.Test.YtjjcfipnainpiabConfPure
import Derived.Test.YtjjcfipnainpiabNumPure
namespace Go.Proofs.Ytjjcfipnainpiab.Pure
open Go.RowKit Go.Proofs Go.Proofs.Ytjjcfipnainpiab.PPuts Go.Proofs.YtjjcfipnainpiabW.PrintWords Go.Proofs.YtjjcfipnainpiabW.PrintLast Go.Proofs.Ytjjcfipnainpiab.X

/-! a configuration near what may be, whatever the odd number -/
def Near (r : Int × Int × Int × List Int × List Int) : Prop := r.2.2.2.1.length ≤ 4 ∧ r.2.2.2.2.length ≤ 4
theorem near_j5' (o a0 a1 a2 : Int) (L3 L4 : List Int) (e b c : Int) (m h : List Int) (hm : m.length ≤ 4) (hh : h.length ≤ 4) : ∃ r, Near r ∧ ∀ k, 1 ≤ k → tarnlaw11_Near.j5 k o a0 a1 a2 L3 L4 e b c m h = some r := by
  by_cases c4 : Go.bits .and .i64 o 15 = 4
  · refine ⟨(0, 0, 0, [], []), ⟨by decide, by decide⟩, fun k hk => ?_⟩
    obtain ⟨k, rfl⟩ : ∃ q, k = q + 1 := ⟨k - 1, by omega⟩
    rw [tarnlaw11_Near.j5, if_pos c4]
  by_cases c8 : Go.bits .and .i64 o 15 = 8
  · refine ⟨(e, a1, c, m, h), ⟨hm, hh⟩, fun k hk => ?_⟩
    obtain ⟨k, rfl⟩ : ∃ q, k = q + 1 := ⟨k - 1, by omega⟩
    rw [tarnlaw11_Near.j5, if_neg c4, if_pos c8]
  by_cases c12 : Go.bits .and .i64 o 15 = 12
  · refine ⟨(a0, b, c, m, h), ⟨hm, hh⟩, fun k hk => ?_⟩
    obtain ⟨k, rfl⟩ : ∃ q, k = q + 1 := ⟨k - 1, by omega⟩
    rw [tarnlaw11_Near.j5, if_neg c4, if_neg c8, if_pos c12]
  · refine ⟨(e, b, c, m, h), ⟨hm, hh⟩, fun k hk => ?_⟩
    obtain ⟨k, rfl⟩ : ∃ q, k = q + 1 := ⟨k - 1, by omega⟩
    rw [tarnlaw11_Near.j5, if_neg c4, if_neg c8, if_neg c12]
theorem near_j4' (o : Int) (f : Bool) (a0 a1 a2 : Int) (L3 L4 : List Int) (e b c : Int) (m h : List Int) (hm : m.length ≤ 4) (hh : h.length ≤ 4) : ∃ r, Near r ∧ ∀ k, 2 ≤ k → tarnlaw11_Near.j4 k o f a0 a1 a2 L3 L4 e b c m h = some r := by
  cases f with
  | true =>
    obtain ⟨r, hr, hk'⟩ := near_j5' o a0 a1 a2 L3 L4 e b c [Go.bits .and .i64 (a1 / 2) 3] [Go.bits .and .i64 (a1 / 8) 3, 4] (by simp) (by simp)
    refine ⟨r, hr, fun k hk => ?_⟩
    obtain ⟨k, rfl⟩ : ∃ q, k = q + 1 := ⟨k - 1, by omega⟩
    rw [tarnlaw11_Near.j4, if_pos rfl]
    exact hk' k (by omega)
  | false =>
    obtain ⟨r, hr, hk'⟩ := near_j5' o a0 a1 a2 L3 L4 e b c m h hm hh
    refine ⟨r, hr, fun k hk => ?_⟩
    obtain ⟨k, rfl⟩ : ∃ q, k = q + 1 := ⟨k - 1, by omega⟩
    rw [tarnlaw11_Near.j4, if_neg (by decide)]
    exact hk' k (by omega)
theorem near_j3' (o a0 a1 a2 : Int) (L3 L4 : List Int) (e b c : Int) (m h : List Int) (hm : m.length ≤ 4) (hh : h.length ≤ 4) :
    ∃ r, Near r ∧ ∀ k, 20 ≤ k → tarnlaw11_Near.j3 k o a0 a1 a2 L3 L4 e b c m h = some r := by
  by_cases hl : listsB m h = true
  · obtain ⟨r, hr, hk'⟩ := near_j4' o false a0 a1 a2 L3 L4 e b c m h hm hh
    refine ⟨r, hr, fun k hk => ?_⟩
    obtain ⟨k, rfl⟩ : ∃ q, k = q + 1 := ⟨k - 1, by omega⟩
    rw [tarnlaw11_Near.j3, ref_lists_f m h (by omega) (by omega) _ (by omega) (by omega), Option.bind_some, if_pos hl]
    exact hk' k (by omega)
  · obtain ⟨r, hr, hk'⟩ := near_j4' o (Go.bits .and .i64 o 3 != 0) a0 a1 a2 L3 L4 e b c m h hm hh
    refine ⟨r, hr, fun k hk => ?_⟩
    obtain ⟨k, rfl⟩ : ∃ q, k = q + 1 := ⟨k - 1, by omega⟩
    rw [tarnlaw11_Near.j3, ref_lists_f m h (by omega) (by omega) _ (by omega) (by omega), Option.bind_some, if_neg hl]
    exact hk' k (by omega)
theorem near_l1' (o a0 a1 a2 : Int) (L3 L4 : List Int) (e b c : Int) (m : List Int) (hm : m.length ≤ 4) : ∀ (j i : Nat) (h : List Int), i + j = 4 → h.length = i →
    ∃ r, Near r ∧ ∀ k, 21 + j ≤ k → tarnlaw11_Near.l1 k o (i : Int) a0 a1 a2 L3 L4 e b c m h = some r := by
  intro j
  induction j with
  | zero =>
    intro i h hi hh
    obtain ⟨r, hr, hk'⟩ := near_j3' o a0 a1 a2 L3 L4 e b c m h hm (by omega)
    refine ⟨r, hr, fun k hk => ?_⟩
    obtain ⟨k, rfl⟩ : ∃ q, k = q + 1 := ⟨k - 1, by omega⟩
    rw [tarnlaw11_Near.l1, if_neg (show ¬ (i : Int) < 4 by omega), ite_self]
    exact hk' k (by omega)
  | succ j ih =>
    intro i h hi hh
    by_cases cl : (i : Int) < (L4.length : Int)
    · obtain ⟨r, hr, hk'⟩ := ih (i + 1) (h ++ [Go.bits .and .i64 (rd L4 (i : Int)) 7]) (by omega) (by simp; omega)
      refine ⟨r, hr, fun k hk => ?_⟩
      obtain ⟨k, rfl⟩ : ∃ q, k = q + 1 := ⟨k - 1, by omega⟩
      rw [tarnlaw11_Near.l1, if_pos cl, if_pos (by omega), if_pos (by omega), if_pos (by omega), succ_wrap _ (by omega)]
      exact hk' k (by omega)
    · obtain ⟨r, hr, hk'⟩ := near_j3' o a0 a1 a2 L3 L4 e b c m h hm (by omega)
      refine ⟨r, hr, fun k hk => ?_⟩
      obtain ⟨k, rfl⟩ : ∃ q, k = q + 1 := ⟨k - 1, by omega⟩
      rw [tarnlaw11_Near.l1, if_neg cl]
      exact hk' k (by omega)
theorem near_j1' (o a0 a1 a2 : Int) (L3 L4 : List Int) (e b c : Int) (m : List Int) (hm : m.length ≤ 4) :
    ∃ r, Near r ∧ ∀ k, 26 ≤ k → tarnlaw11_Near.j1 k o a0 a1 a2 L3 L4 e b c m = some r := by
  obtain ⟨r, hr, hk'⟩ := near_l1' o a0 a1 a2 L3 L4 e b c m hm 4 0 [] (by omega) rfl
  refine ⟨r, hr, fun k hk => ?_⟩
  obtain ⟨k, rfl⟩ : ∃ q, k = q + 1 := ⟨k - 1, by omega⟩
  rw [tarnlaw11_Near.j1]
  exact hk' k (by omega)
theorem near_l0' (o a0 a1 a2 : Int) (L3 L4 : List Int) (e b c : Int) : ∀ (j i : Nat) (m : List Int), i + j = 4 → m.length = i →
    ∃ r, Near r ∧ ∀ k, 27 + j ≤ k → tarnlaw11_Near.l0 k o (i : Int) a0 a1 a2 L3 L4 e b c m = some r := by
  intro j
  induction j with
  | zero =>
    intro i m hi hm
    obtain ⟨r, hr, hk'⟩ := near_j1' o a0 a1 a2 L3 L4 e b c m (by omega)
    refine ⟨r, hr, fun k hk => ?_⟩
    obtain ⟨k, rfl⟩ : ∃ q, k = q + 1 := ⟨k - 1, by omega⟩
    rw [tarnlaw11_Near.l0, if_neg (show ¬ (i : Int) < 4 by omega), ite_self]
    exact hk' k (by omega)
  | succ j ih =>
    intro i m hi hm
    by_cases cl : (i : Int) < (L3.length : Int)
    · obtain ⟨r, hr, hk'⟩ := ih (i + 1) (m ++ [Go.bits .and .i64 (rd L3 (i : Int)) 7]) (by omega) (by simp; omega)
      refine ⟨r, hr, fun k hk => ?_⟩
      obtain ⟨k, rfl⟩ : ∃ q, k = q + 1 := ⟨k - 1, by omega⟩
      rw [tarnlaw11_Near.l0, if_pos cl, if_pos (by omega), if_pos (by omega), if_pos (by omega), succ_wrap _ (by omega)]
      exact hk' k (by omega)
    · obtain ⟨r, hr, hk'⟩ := near_j1' o a0 a1 a2 L3 L4 e b c m (by omega)
      refine ⟨r, hr, fun k hk => ?_⟩
      obtain ⟨k, rfl⟩ : ∃ q, k = q + 1 := ⟨k - 1, by omega⟩
      rw [tarnlaw11_Near.l0, if_neg cl]
      exact hk' k (by omega)
theorem near_any (o a0 a1 a2 : Int) (L3 L4 : List Int) : ∃ r, Near r ∧ ∀ k, 40 ≤ k → tarnlaw11_Near.f k a0 a1 a2 L3 L4 o = some r := by
  obtain ⟨r, hr, hk'⟩ := near_l0' o a0 a1 a2 L3 L4 (Go.bits .and .i64 a0 31) (wrap64 (5 + (Go.bits .and .i64 a1 1))) (wrap64 ((Go.bits .and .i64 a2 31) + 1)) 4 0 [] (by omega) rfl
  exact ⟨r, hr, fun k hk => hk' k (by omega)⟩
/-! the same -/
theorem eq_l0 : ∀ (s1 s2 p1 p2 : List Int), p1.length = p2.length → s1.length = s2.length → (p1 ++ s1).length ≤ 1000 → ∀ k, s1.length + 1 ≤ k →
    slices_Equal_int_int.l0 k (p1 ++ s1) (p2 ++ s2) ((p1 ++ s1).length : Int) (p1.length : Int) = some (decide (s1 = s2)) := by
  intro s1
  induction s1 with
  | nil =>
    intro s2 p1 p2 hp hs hl k hk
    obtain ⟨k, rfl⟩ : ∃ q, k = q + 1 := ⟨k - 1, by simp at hk; omega⟩
    have : s2 = [] := List.eq_nil_of_length_eq_zero hs.symm
    subst this
    rw [slices_Equal_int_int.l0, if_neg (by simp)]
    simp
  | cons x s1 ih =>
    intro s2 p1 p2 hp hs hl k hk
    obtain ⟨k, rfl⟩ : ∃ q, k = q + 1 := ⟨k - 1, by simp at hk; omega⟩
    cases s2 with
    | nil => cases hs
    | cons y s2 =>
      have hl' : p1.length + (s1.length + 1) ≤ 1000 := by simpa using hl
      have hs' : s1.length = s2.length := by simpa using hs
      have h2 : rd (p2 ++ y :: s2) (p1.length : Int) = y := by rw [hp]; exact rd_mid p2 s2 y
      rw [slices_Equal_int_int.l0, if_pos (by simp; omega), if_pos (by omega), if_pos (by simp; omega), if_pos (by simp; omega), rd_mid, h2]
      by_cases c : x = y
      · have := ih s2 (p1 ++ [x]) (p2 ++ [y]) (by simp [hp]) hs' (by simp; omega) k (by simp at hk; omega)
        rw [len_snoc, ← app_cons, ← app_cons] at this
        rw [if_pos c, succ_wrap _ (by omega), this]
        simp [c]
      · rw [if_neg c]
        simp [c]
theorem eq_f (a b : List Int) (ha : a.length ≤ 1000) (k : Nat) (hk : a.length + 1 ≤ k) : slices_Equal_int_int.f k a b = some (decide (a = b)) := by
  unfold slices_Equal_int_int.f
  by_cases c : (a.length : Int) = (b.length : Int)
  · rw [if_pos c]
    exact eq_l0 a b [] [] rfl (by omega) (by simpa using ha) k hk
  · rw [if_neg c, decide_eq_false (fun h => c (by rw [h]))]
theorem ref_eq_l0 : ∀ (s1 s2 p1 p2 : List Int), p1.length = p2.length → s1.length = s2.length → (p1 ++ s1).length ≤ 1000 → ∀ k, s1.length + 1 ≤ k →
    tarnref11_same.l0 k (p1 ++ s1) (p2 ++ s2) (p1.length : Int) = some (decide (s1 = s2)) := by
  intro s1
  induction s1 with
  | nil =>
    intro s2 p1 p2 hp hs hl k hk
    obtain ⟨k, rfl⟩ : ∃ q, k = q + 1 := ⟨k - 1, by simp at hk; omega⟩
    have : s2 = [] := List.eq_nil_of_length_eq_zero hs.symm
    subst this
    rw [tarnref11_same.l0, if_neg (by simp)]
    simp
  | cons x s1 ih =>
    intro s2 p1 p2 hp hs hl k hk
    obtain ⟨k, rfl⟩ : ∃ q, k = q + 1 := ⟨k - 1, by simp at hk; omega⟩
    cases s2 with
    | nil => cases hs
    | cons y s2 =>
      have hl' : p1.length + (s1.length + 1) ≤ 1000 := by simpa using hl
      have hs' : s1.length = s2.length := by simpa using hs
      have h2 : rd (p2 ++ y :: s2) (p1.length : Int) = y := by rw [hp]; exact rd_mid p2 s2 y
      rw [tarnref11_same.l0, if_pos (by simp; omega), if_pos (by omega), if_pos (by simp; omega), rd_mid, h2]
      by_cases c : x = y
      · have := ih s2 (p1 ++ [x]) (p2 ++ [y]) (by simp [hp]) hs' (by simp; omega) k (by simp at hk; omega)
        rw [len_snoc, ← app_cons, ← app_cons] at this
        rw [if_pos c, succ_wrap _ (by omega), this]
        simp [c]
      · rw [if_neg c]
        simp [c]
theorem ref_eq_f (a b : List Int) (ha : a.length ≤ 1000) (k : Nat) (hk : a.length + 1 ≤ k) : tarnref11_same.f k a b = some (decide (a = b)) := by
  unfold tarnref11_same.f
  by_cases c : (a.length : Int) = (b.length : Int)
  · rw [if_pos c]
    exact ref_eq_l0 a b [] [] rfl (by omega) (by simpa using ha) k hk
  · rw [if_neg c, decide_eq_false (fun h => c (by rw [h]))]
def sameP (a0 a1 a2 : Int) (l3 l4 : List Int) (b0 b1 b2 : Int) (m3 m4 : List Int) : Prop := a0 = b0 ∧ a1 = b1 ∧ a2 = b2 ∧ l3 = m3 ∧ l4 = m4
instance (a0 a1 a2 : Int) (l3 l4 : List Int) (b0 b1 b2 : Int) (m3 m4 : List Int) : Decidable (sameP a0 a1 a2 l3 l4 b0 b1 b2 m3 m4) := by unfold sameP; infer_instance
theorem chain5 {A B C D E : Prop} [Decidable A] [Decidable B] [Decidable C] [Decidable D] [Decidable E] {P : Prop} [Decidable P] (h : P ↔ A ∧ B ∧ C ∧ D ∧ E) :
    (if A then (if B then (if C then ((some (decide D)).bind fun t => (if t = true then ((some (decide E)).bind fun t' => (some t')) else (some false))) else (some false)) else (some false)) else (some false)) = some (decide P) := by
  by_cases hA : A
  · by_cases hB : B
    · by_cases hC : C
      · by_cases hD : D
        · simp [hA, hB, hC, hD, h]
        · simp [hA, hB, hC, hD, h]
      · simp [hA, hB, hC, h]
    · simp [hA, hB, h]
  · simp [hA, h]
theorem same_f (a0 a1 a2 : Int) (l3 l4 : List Int) (b0 b1 b2 : Int) (m3 m4 : List Int) (h3 : l3.length ≤ 100) (h4 : l4.length ≤ 100) (k : Nat) (hk : 110 ≤ k) : conf_Same.f k a0 a1 a2 l3 l4 b0 b1 b2 m3 m4 = some (decide (sameP a0 a1 a2 l3 l4 b0 b1 b2 m3 m4)) := by
  unfold conf_Same.f
  rw [eq_f l3 m3 (by omega) k (by omega), eq_f l4 m4 (by omega) k (by omega)]
  exact chain5 Iff.rfl
theorem ref_same_f (a0 a1 a2 : Int) (l3 l4 : List Int) (b0 b1 b2 : Int) (m3 m4 : List Int) (h3 : l3.length ≤ 100) (h4 : l4.length ≤ 100) (k : Nat) (hk : 110 ≤ k) : tarnref11_Same.f k a0 a1 a2 l3 l4 b0 b1 b2 m3 m4 = some (decide (sameP a0 a1 a2 l3 l4 b0 b1 b2 m3 m4)) := by
  unfold tarnref11_Same.f
  rw [ref_eq_f l3 m3 (by omega) k (by omega), ref_eq_f l4 m4 (by omega) k (by omega)]
  exact chain5 Iff.rfl
def noneB (e b c : Int) (m h : List Int) : Bool := decide (sameP e b c m h 0 0 0 [] [])
theorem none_f (e b c : Int) (m h : List Int) (h3 : m.length ≤ 100) (h4 : h.length ≤ 100) (k : Nat) (hk : 110 ≤ k) : conf_None.f k e b c m h = some (noneB e b c m h) := by
  unfold conf_None.f
  rw [same_f _ _ _ _ _ _ _ _ _ _ h3 h4 k hk]
  rfl
theorem ref_none_f (e b c : Int) (m h : List Int) (h3 : m.length ≤ 100) (h4 : h.length ≤ 100) (k : Nat) (hk : 110 ≤ k) : tarnref11_None.f k e b c m h = some (noneB e b c m h) := by
  unfold tarnref11_None.f
  rw [ref_same_f _ _ _ _ _ _ _ _ _ _ h3 h4 k hk]
  rfl
/-! may be -/
theorem index_l0 (n : Int) : ∀ (s p : List Int), (p ++ s).length ≤ 1000 → ∀ k, s.length + 1 ≤ k → ∃ r : Int, slices_Index_int_int.l0 k (p ++ s) n ((p ++ s).length : Int) (p.length : Int) = some r ∧ decide (r ≥ 0) = hasB n s := by
  intro s
  induction s with
  | nil =>
    intro p hp k hk
    obtain ⟨k, rfl⟩ : ∃ q, k = q + 1 := ⟨k - 1, by simp at hk; omega⟩
    rw [slices_Index_int_int.l0, if_neg (by simp)]
    exact ⟨-1, rfl, rfl⟩
  | cons x s ih =>
    intro p hp k hk
    obtain ⟨k, rfl⟩ : ∃ q, k = q + 1 := ⟨k - 1, by simp at hk; omega⟩
    have hp' : p.length + (s.length + 1) ≤ 1000 := by simpa using hp
    rw [slices_Index_int_int.l0, if_pos (by simp; omega), if_pos (by omega), if_pos (by simp; omega), rd_mid]
    by_cases c : n = x
    · rw [if_pos c]
      exact ⟨_, rfl, by rw [decide_eq_true (by omega)]; simp [hasB, c]⟩
    · obtain ⟨r, h1, h2⟩ := ih (p ++ [x]) (by simp; omega) k (by simp at hk; omega)
      rw [len_snoc, ← app_cons] at h1
      rw [if_neg c, succ_wrap _ (by omega)]
      have c' : ¬ x = n := fun h => c h.symm
      exact ⟨r, h1, by rw [h2]; simp [hasB, c']⟩
theorem contains_f (n : Int) (l : List Int) (hl : l.length ≤ 1000) (k : Nat) (hk : l.length + 1 ≤ k) : slices_Contains_int_int.f k l n = some (hasB n l) := by
  obtain ⟨r, h1, h2⟩ := index_l0 n l [] (by simpa using hl) k hk
  unfold slices_Contains_int_int.f slices_Index_int_int.f
  have h1' : slices_Index_int_int.l0 k l n (l.length : Int) 0 = some r := h1
  rw [h1', Option.bind_some, h2]
theorem node_f (n : Int) : conf_Node.f n = some (decide (0 ≤ n ∧ n < 5)) := by
  unfold conf_Node.f
  by_cases c : n ≥ 0
  · rw [if_pos c]; congr 1; apply decide_eq_decide.mpr; omega
  · rw [if_neg c, decide_eq_false (by omega)]
theorem gate_f (n : Int) : conf_Gate.f n = some (decide (5 ≤ n ∧ n < 7)) := by
  unfold conf_Gate.f
  by_cases c : n ≥ 5
  · rw [if_pos c]; congr 1; apply decide_eq_decide.mpr; omega
  · rw [if_neg c, decide_eq_false (by omega)]
theorem nodes_l0 : ∀ (s p : List Int), (p ++ s).length ≤ 1000 → ∀ k, (p ++ s).length + 5 + s.length ≤ k →
    conf_nodes.l0 k (p ++ s) (p ++ s) ((p ++ s).length : Int) (p.length : Int) = some (goB p s) := by
  intro s
  induction s with
  | nil =>
    intro p hp k hk
    obtain ⟨k, rfl⟩ : ∃ q, k = q + 1 := ⟨k - 1, by omega⟩
    rw [conf_nodes.l0, if_neg (by simp)]
    rfl
  | cons x s ih =>
    intro p hp k hk
    obtain ⟨k, rfl⟩ : ∃ q, k = q + 1 := ⟨k - 1, by omega⟩
    have hp' : p.length + (s.length + 1) ≤ 1000 := by simpa using hp
    have hk' : p.length + (s.length + 1) + 5 + (s.length + 1) ≤ k + 1 := by simpa using hk
    rw [conf_nodes.l0, if_pos (by simp; omega), if_pos (by omega), if_pos (by simp; omega), rd_mid, node_f, Option.bind_some]
    by_cases c1 : 0 ≤ x ∧ x < 5
    · rw [if_pos (decide_eq_true c1), if_pos (by simp; omega), take_mid, contains_f x p (by omega) k (by omega), Option.bind_some]
      by_cases c3 : hasB x p = true
      · rw [if_pos c3]; simp [goB, c3]
      · have := ih (p ++ [x]) (by simp; omega) k (by simp; omega)
        rw [len_snoc, ← app_cons] at this
        rw [if_neg c3, succ_wrap _ (by omega), this]
        simp [goB, c3, show 0 ≤ x by omega, show x ≤ 4 by omega]
    · rw [if_neg (by rw [decide_eq_false c1]; decide)]
      by_cases c2 : 0 ≤ x
      · simp [goB, show ¬ x ≤ 4 by omega]
      · simp [goB, c2]
theorem nodes_f (l : List Int) (least : Int) (hl : l.length ≤ 1000) (k : Nat) (hk : 2 * l.length + 10 ≤ k) : conf_nodes.f k l least 3 = some (nodesB l least) := by
  obtain ⟨k, rfl⟩ : ∃ q, k = q + 1 := ⟨k - 1, by omega⟩
  have hlo := nodes_l0 l [] (by simpa using hl) k (by simp; omega)
  have hlo' : conf_nodes.l0 k l l (l.length : Int) 0 = some (goB [] l) := hlo
  unfold conf_nodes.f nodesB
  by_cases c1 : (l.length : Int) < least
  · rw [if_pos c1, conf_nodes.j0, if_pos rfl, decide_eq_false (show ¬ (l.length : Int) ≥ least by omega)]
    simp
  · rw [if_neg c1, decide_eq_true (show (l.length : Int) ≥ least by omega), conf_nodes.j0]
    by_cases c2 : (l.length : Int) > 3
    · rw [if_pos (decide_eq_true c2), decide_eq_false (show ¬ (l.length : Int) ≤ 3 by omega)]
      simp
    · rw [if_neg (by rw [decide_eq_false c2]; decide), decide_eq_true (show (l.length : Int) ≤ 3 by omega), hlo']
      simp
theorem lists_f (m c : List Int) (hm : m.length ≤ 1000) (hc : c.length ≤ 1000) (k : Nat) (h1 : 2 * m.length + 10 ≤ k) (h2 : 2 * c.length + 10 ≤ k) : conf_Lists.f k m c = some (listsB m c) := by
  unfold conf_Lists.f listsB
  rw [nodes_f m 0 hm k h1, Option.bind_some, nodes_f c 1 hc k h2, Option.bind_some]
  cases nodesB m 0 <;> rfl
def headP (e b c : Int) : Prop := 0 ≤ e ∧ e ≤ 1048576 ∧ (b = 5 ∨ b = 6) ∧ 1 ≤ c ∧ c ≤ 1048576
instance (e b c : Int) : Decidable (headP e b c) := by unfold headP; infer_instance
def mayB (e b c : Int) (m h : List Int) : Bool := noneB e b c m h || (decide (headP e b c) && listsB m h)
theorem may_f (e b c : Int) (m h : List Int) (h3 : m.length ≤ 100) (h4 : h.length ≤ 100) (k : Nat) (hk : 300 ≤ k) : conf_May.f k e b c m h = some (mayB e b c m h) := by
  unfold conf_May.f mayB
  rw [none_f e b c m h h3 h4 k (by omega), Option.bind_some, gate_f, Option.bind_some, lists_f m h (by omega) (by omega) k (by omega) (by omega), Option.bind_some]
  have no : ¬ headP e b c → some false = some (decide (headP e b c) && listsB m h) := fun h => by rw [decide_eq_false h]; rfl
  cases hn : noneB e b c m h with
  | true => rfl
  | false =>
    rw [if_neg (by decide), Bool.false_or]
    by_cases c1 : e ≥ 0
    · rw [if_pos c1]
      by_cases c2 : e ≤ 1048576
      · rw [if_pos c2]
        by_cases c3 : 5 ≤ b ∧ b < 7
        · rw [if_pos (decide_eq_true c3)]
          by_cases c4 : c ≥ 1
          · rw [if_pos c4]
            by_cases c5 : c ≤ 1048576
            · rw [if_pos c5, decide_eq_true (show headP e b c from ⟨by omega, c2, by omega, by omega, c5⟩), Bool.true_and]
            · rw [if_neg c5]; exact no (fun h => c5 h.2.2.2.2)
          · rw [if_neg c4]; exact no (fun h => c4 (by have := h.2.2.2.1; omega))
        · rw [if_neg (by rw [decide_eq_false c3]; decide)]; exact no (fun h => c3 (by have := h.2.2.1; omega))
      · rw [if_neg c2]; exact no (fun h => c2 h.2.1)
    · rw [if_neg c1]; exact no (fun h => c1 (by have := h.1; omega))
theorem ref_may_f (e b c : Int) (m h : List Int) (h3 : m.length ≤ 100) (h4 : h.length ≤ 100) (k : Nat) (hk : 300 ≤ k) : tarnref11_May.f k e b c m h = some (mayB e b c m h) := by
  unfold tarnref11_May.f mayB
  rw [ref_none_f e b c m h h3 h4 k (by omega), Option.bind_some, ref_lists_f m h (by omega) (by omega) k (by omega) (by omega), Option.bind_some]
  have no : ¬ headP e b c → some false = some (decide (headP e b c) && listsB m h) := fun h => by rw [decide_eq_false h]; rfl
  have rest : (b = 5 ∨ b = 6) → e ≥ 0 → e ≤ 1048576 → (if c ≥ 1 then (if c ≤ 1048576 then (some (listsB m h)) else (some false)) else (some false)) = some (decide (headP e b c) && listsB m h) := by
    intro hb c1 c2
    by_cases c4 : c ≥ 1
    · rw [if_pos c4]
      by_cases c5 : c ≤ 1048576
      · rw [if_pos c5, decide_eq_true (show headP e b c from ⟨by omega, c2, hb, by omega, c5⟩), Bool.true_and]
      · rw [if_neg c5]; exact no (fun h => c5 h.2.2.2.2)
    · rw [if_neg c4]; exact no (fun h => c4 (by have := h.2.2.2.1; omega))
  cases hn : noneB e b c m h with
  | true => rfl
  | false =>
    rw [if_neg (by decide), Bool.false_or]
    by_cases c1 : e ≥ 0
    · rw [if_pos c1]
      by_cases c2 : e ≤ 1048576
      · rw [if_pos c2]
        by_cases c5 : b = 5
        · rw [if_pos c5]; exact rest (Or.inl c5) c1 c2
        · rw [if_neg c5]
          by_cases c6 : b = 6
          · rw [if_pos c6]; exact rest (Or.inr c6) c1 c2
          · rw [if_neg c6]; exact no (fun h => by have := h.2.2.1; omega)
      · rw [if_neg c2]; exact no (fun h => c2 h.2.1)
    · rw [if_neg c1]; exact no (fun h => c1 (by have := h.1; omega))
theorem awake_f (k : Nat) (hk : 400 ≤ k) : tarnlaw11_awake.f k = some true := by
  obtain ⟨q, rfl⟩ : ∃ q, k = q + 400 := ⟨k - 400, by omega⟩
  unfold tarnlaw11_awake.f
  have hb1 : conf_Behind.f (q + 400) 1 5 1 ([] : List Int) [3, 1] 3 = some 1 := by kernel_rfl
  have hb2 : conf_Behind.f (q + 400) 1 5 1 ([] : List Int) [3, 1] 1 = some (-1) := by kernel_rfl
  have hc : conf_Chains.f (q + 400) 1 5 1 ([] : List Int) [3, 1] 3 = some true := by kernel_rfl
  have hm : conf_Mirrors.f (q + 400) 1 5 1 ([] : List Int) [3, 1] 3 = some false := by kernel_rfl
  have hy : mayB 1 5 1 [] [3, 1] = true := by decide
  rw [Option.bind_some, may_f 1 5 1 [] [3, 1] (by decide) (by decide) _ (by omega), hy, Option.bind_some, if_pos rfl, hb1, Option.bind_some, if_pos rfl, hb2, Option.bind_some, if_pos rfl, hc, Option.bind_some, if_pos rfl, hm, Option.bind_some]
  rfl
/-! bytes -/
theorem str_one (x : Nat) : strOfNums [((x : Int))] = BA [UInt8.ofNat x] := by
  unfold strOfNums
  simp
theorem high_f (n : Nat) (h : n < 16777216) (k : Nat) (hk : 5 ≤ k) : tarnref01_High.f k (n : Int) = some (BA (hiL n (wd n))) := by
  have st : ∀ (q m : Nat) (l : List UInt8), m < 16777216 → l.length ≤ 100 → 0 < m → tarnref01_High.f q ((m / 256 : Nat) : Int) = some (BA l) → tarnref01_High.f (q + 1) (m : Int) = some (BA (l ++ [UInt8.ofNat (m % 256)])) := by
    intro q m l hm hl h0 hr
    have e1 : IntKind.u64.wrap (Int.tdiv (m : Int) 256) = ((m / 256 : Nat) : Int) := by
      rw [Int.tdiv_eq_ediv_of_nonneg (by omega)]
      simp [IntKind.wrap, IntKind.bits, IntKind.signed]
      omega
    have e2 : (Int.tmod (m : Int) 256) % 256 = ((m % 256 : Nat) : Int) := by
      rw [Int.tmod_eq_emod_of_nonneg (by omega)]
      omega
    rw [tarnref01_High.f, if_neg (by omega), e1, hr, Option.bind_some, Option.bind_some, e2, str_one, if_pos (by rw [BA_size, BA_size]; simp; omega), BA_append]
  have z : ∀ q : Nat, tarnref01_High.f (q + 1) ((0 : Nat) : Int) = some (BA []) := by
    intro q
    rw [tarnref01_High.f, if_pos (by decide)]
  obtain ⟨q, rfl⟩ : ∃ q, k = q + 4 := ⟨k - 4, by omega⟩
  rcases wd_cases n h with ⟨h1, h2⟩ | ⟨h1, h3, h2⟩ | ⟨h1, h3, h2⟩ | ⟨h1, h3, h2⟩ <;> rw [h2]
  · rw [h1]; exact z _
  · rw [hiL_1]
    exact st _ n [] h (by simp) h1 (by rw [show n / 256 = 0 by omega]; exact z _)
  · rw [hiL_2]
    refine st _ n [UInt8.ofNat (n / 256 % 256)] h (by simp) (by omega) ?_
    exact st _ (n / 256) [] (by omega) (by simp) (by omega) (by rw [show n / 256 / 256 = 0 by omega]; exact z _)
  · rw [hiL_3]
    refine st _ n [UInt8.ofNat (n / 65536 % 256), UInt8.ofNat (n / 256 % 256)] h (by simp) (by omega) ?_
    refine st _ (n / 256) [UInt8.ofNat (n / 65536 % 256)] (by omega) (by simp) (by omega) ?_
    rw [show n / 256 / 256 = n / 65536 by omega]
    exact st _ (n / 65536) [] (by omega) (by simp) (by omega) (by rw [show n / 65536 / 256 = 0 by omega]; exact z _)
theorem ref_put_f (n : Nat) (h : n < 16777216) (k : Nat) (hk : 5 ≤ k) : tarnref01_Put.f k (n : Int) = some (BA (putL n)) := by
  have h3 := wd_le n
  unfold tarnref01_Put.f
  have hz : (BA (hiL n (wd n))).size = wd n := by rw [BA_size, hiL_len]
  rw [high_f n h k hk, Option.bind_some, Option.bind_some, hz, show ((wd n : Nat) : Int) % 256 = ((wd n : Nat) : Int) by omega, str_one, if_pos (by rw [BA_size]; simp; omega), BA_append]
  rfl
theorem putL_len4 (n : Nat) : (putL n).length ≤ 4 := putL_length n
theorem flatL_len (l : List Int) : (flatL l).length ≤ 4 * l.length := flat_length l
theorem flatL_snoc (l : List Int) (x : Int) : flatL (l ++ [x]) = flatL l ++ putL x.toNat := by
  unfold flatL
  rw [List.map_append, List.flatten_append]
  simp
theorem wrap_u (x : Int) (h0 : 0 ≤ x) (h1 : x < 16777216) : IntKind.u64.wrap x = x := by
  simp [IntKind.wrap, IntKind.bits, IntKind.signed]
  omega
theorem ref_list_l0 (A : List UInt8) (hA : A.length ≤ 10) : ∀ (s p : List Int), (p ++ s).length ≤ 1000 → (∀ x ∈ s, x < 16777216) → ∀ k, 10 + s.length ≤ k →
    tarnref01_List.l0 k (p ++ s) (BA (A ++ flatL p)) (p.length : Int) = some (BA (A ++ flatL (p ++ s))) := by
  intro s
  induction s with
  | nil =>
    intro p hp hx k hk
    obtain ⟨k, rfl⟩ : ∃ q, k = q + 1 := ⟨k - 1, by simp at hk; omega⟩
    rw [tarnref01_List.l0, if_neg (by simp), List.append_nil]
  | cons x s ih =>
    intro p hp hx k hk
    obtain ⟨k, rfl⟩ : ∃ q, k = q + 1 := ⟨k - 1, by simp at hk; omega⟩
    have hp' : p.length + (s.length + 1) ≤ 1000 := by simpa using hp
    have hx1 := hx x List.mem_cons_self
    have hfl := flatL_len p
    have hpu := putL_len4 x.toNat
    have hnext := ih (p ++ [x]) (by simp; omega) (fun y hy => hx y (List.mem_cons_of_mem _ hy)) k (by simp at hk; omega)
    rw [len_snoc, flatL_snoc, ← List.append_assoc, ← app_cons] at hnext
    have hsz : (BA (A ++ flatL p)).size + (BA (putL x.toNat)).size ≤ 9223372036854775807 := by rw [BA_size, BA_size, List.length_append]; omega
    rw [tarnref01_List.l0, if_pos (by simp; omega), if_pos (by omega), rd_mid, succ_wrap _ (by omega)]
    by_cases c : x < 0
    · have hz : x.toNat = 0 := by omega
      rw [if_pos c, show (0 : Int) = ((0 : Nat) : Int) from rfl, ref_put_f 0 (by omega) k (by simp at hk; omega), Option.bind_some, ← hz, if_pos hsz, BA_append]
      exact hnext
    · rw [if_neg c, wrap_u x (by omega) hx1, show x = ((x.toNat : Nat) : Int) by omega, ref_put_f x.toNat (by omega) k (by simp at hk; omega), Option.bind_some, if_pos hsz, BA_append]
      have e : ((x.toNat : Nat) : Int) = x := by omega
      rw [e]
      exact hnext
theorem ref_list_f (l : List Int) (hl : l.length ≤ 1000) (hx : ∀ x ∈ l, x < 16777216) (k : Nat) (hk : 20 + l.length ≤ k) : tarnref01_List.f k l = some (BA (listL l)) := by
  have h := ref_list_l0 (putL l.length) (by have := putL_len4 l.length; omega) l [] (by simpa using hl) hx k (by omega)
  unfold tarnref01_List.f
  rw [wrap_u _ (by omega) (by omega), ref_put_f l.length (by omega) k (by omega), Option.bind_some]
  have e : BA (putL l.length ++ flatL []) = BA (putL l.length) := by simp [flatL]
  rw [e] at h
  exact h
theorem list_f' (l : List Int) (hl : l.length ≤ 1000) (hx : ∀ x ∈ l, x < 16777216) : num_List.f l = some (BA (listL l)) := by
  unfold num_List.f
  rw [if_pos hl, if_pos hx]
theorem listL_len (l : List Int) : (listL l).length ≤ 4 + 4 * l.length := by
  have h1 := putL_len4 l.length
  have h2 := flatL_len l
  have : (listL l).length = (putL l.length).length + (flatL l).length := by unfold listL flatL; rw [List.length_append]
  omega
section
variable {e b c : Int} {m h : List Int}
def headL (e b c : Int) : List UInt8 := listL [e, b, c]
/-- What a configuration that may be is. -/
def Fits (e b c : Int) (m h : List Int) : Prop := (0 ≤ e ∧ e ≤ 1048576) ∧ (0 ≤ b ∧ b ≤ 6) ∧ (0 ≤ c ∧ c ≤ 1048576) ∧ m.length ≤ 3 ∧ h.length ≤ 3 ∧ (∀ x ∈ m, 0 ≤ x ∧ x ≤ 5) ∧ (∀ x ∈ h, 0 ≤ x ∧ x ≤ 5)
theorem fits_of_may (hy : mayB e b c m h = true) : Fits e b c m h := by
  unfold mayB at hy
  rw [Bool.or_eq_true] at hy
  rcases hy with hy | hy
  · have := of_decide_eq_true hy
    obtain ⟨h1, h2, h3, h4, h5⟩ := this
    subst h1; subst h2; subst h3; subst h4; subst h5
    exact ⟨by omega, by omega, by omega, by simp, by simp, by simp, by simp⟩
  · rw [Bool.and_eq_true] at hy
    obtain ⟨h1, h2, h3, h4, h5⟩ := of_decide_eq_true hy.1
    have hl := hy.2
    unfold listsB at hl
    rw [Bool.and_eq_true] at hl
    obtain ⟨m1, m2, m3, m4⟩ := nodesB_iff m 0 hl.1
    obtain ⟨q1, q2, q3, q4⟩ := nodesB_iff h 1 hl.2
    exact ⟨by omega, by omega, by omega, m4, q4, fun x hx => by have := m1 x hx; omega, fun x hx => by have := q1 x hx; omega⟩
theorem head_mem (hf : Fits e b c m h) : ∀ x ∈ [e, b, c], 0 ≤ x ∧ x ≤ 1048576 := by
  obtain ⟨h1, h2, h3, _⟩ := hf
  intro x hx
  simp only [List.mem_cons, List.not_mem_nil, or_false] at hx
  rcases hx with rfl | rfl | rfl <;> omega
theorem sizes (hf : Fits e b c m h) : (headL e b c).length ≤ 20 ∧ (listL m).length ≤ 20 ∧ (listL h).length ≤ 20 := by
  have h1 := listL_len [e, b, c]
  have h2 := listL_len m
  have h3 := listL_len h
  have := hf.2.2.2.1
  have := hf.2.2.2.2.1
  simp only [List.length_cons, List.length_nil] at h1
  unfold headL
  omega
theorem put_f (hf : Fits e b c m h) : conf_Put.f e b c m h = some (BA (headL e b c ++ listL m ++ listL h)) := by
  obtain ⟨s1, s2, s3⟩ := sizes hf
  have hh := head_mem hf
  unfold conf_Put.f
  rw [list_f' [e, b, c] (by simp) (fun x hx => by have := hh x hx; omega), Option.bind_some, list_f' m (by have := hf.2.2.2.1; omega) (fun x hx => by have := hf.2.2.2.2.2.1 x hx; omega), Option.bind_some]
  unfold headL at s1
  rw [if_pos (by rw [BA_size, BA_size]; omega), list_f' h (by have := hf.2.2.2.2.1; omega) (fun x hx => by have := hf.2.2.2.2.2.2 x hx; omega), Option.bind_some, BA_append, if_pos (by rw [BA_size, BA_size, List.length_append]; omega), BA_append]
  rfl
theorem ref_put_conf_f (hf : Fits e b c m h) (k : Nat) (hk : 100 ≤ k) : tarnref11_Put.f k e b c m h = some (BA (headL e b c ++ listL m ++ listL h)) := by
  obtain ⟨s1, s2, s3⟩ := sizes hf
  have hh := head_mem hf
  have hm := hf.2.2.2.1
  have hhl := hf.2.2.2.2.1
  unfold tarnref11_Put.f
  rw [ref_list_f [e, b, c] (by simp) (fun x hx => by have := hh x hx; omega) k (by simp; omega), Option.bind_some, ref_list_f m (by omega) (fun x hx => by have := hf.2.2.2.2.2.1 x hx; omega) k (by omega), Option.bind_some]
  unfold headL at s1
  rw [if_pos (by rw [BA_size, BA_size]; omega), ref_list_f h (by omega) (fun x hx => by have := hf.2.2.2.2.2.2 x hx; omega) k (by omega), Option.bind_some, BA_append, if_pos (by rw [BA_size, BA_size, List.length_append]; omega), BA_append]
  rfl
theorem take_conf_f (hf : Fits e b c m h) (hy : mayB e b c m h = true) (k : Nat) (hk : 400 ≤ k) :
    conf_Take.f k (BA (headL e b c ++ listL m ++ listL h)) 0 0 = some (e, b, c, m, h, BA (headL e b c ++ listL m ++ listL h), ((headL e b c ++ listL m ++ listL h).length : Int), 0) := by
  obtain ⟨s1, s2, s3⟩ := sizes hf
  have hh := head_mem hf
  have hm := hf.2.2.2.1
  have hhl := hf.2.2.2.2.1
  obtain ⟨k, rfl⟩ : ∃ q, k = q + 3 := ⟨k - 3, by omega⟩
  have e1 : headL e b c ++ listL m ++ listL h = [] ++ (listL [e, b, c] ++ (listL m ++ listL h)) := by unfold headL; simp
  have e2 : headL e b c ++ listL m ++ listL h = ([] ++ listL [e, b, c]) ++ (listL m ++ listL h) := by unfold headL; simp
  have e3 : headL e b c ++ listL m ++ listL h = (([] ++ listL [e, b, c]) ++ listL m) ++ (listL h ++ []) := by unfold headL; simp
  have hlen : (headL e b c ++ listL m ++ listL h).length ≤ 1000 := by rw [List.length_append, List.length_append]; omega
  have t1 := list_f [] (listL m ++ listL h) [e, b, c] 1048576 3 (by omega) (by simp) (by omega) hh (by rw [← e1]; omega) (k + 3) (by simp; omega)
  have t2 := list_f ([] ++ listL [e, b, c]) (listL h) m 5 3 (by omega) hm (by omega) hf.2.2.2.2.2.1 (by rw [← e2]; omega) (k + 3) (by omega)
  have t3 := list_f (([] ++ listL [e, b, c]) ++ listL m) [] h 5 3 (by omega) hhl (by omega) hf.2.2.2.2.2.2 (by rw [← e3]; omega) (k + 3) (by omega)
  rw [← e1] at t1
  rw [← e2] at t2
  rw [← e3] at t3
  have e4 : (([] ++ listL [e, b, c]) ++ listL m) ++ listL h = headL e b c ++ listL m ++ listL h := by unfold headL; simp
  rw [e4] at t3
  generalize headL e b c ++ listL m ++ listL h = ALL at *
  have z : ((([] : List UInt8).length : Nat) : Int) = 0 := rfl
  rw [z] at t1
  unfold conf_Take.f
  have c3 : ((3 : Nat) : Int) = 3 := rfl
  have c5 : ((5 : Nat) : Int) = 5 := rfl
  have cM : ((1048576 : Nat) : Int) = 1048576 := rfl
  rw [c3, cM] at t1
  rw [c3, c5] at t2 t3
  rw [t1, Option.bind_some]
  dsimp only
  rw [t2, Option.bind_some]
  dsimp only
  rw [t3, Option.bind_some]
  dsimp only
  unfold num_Source_Err.f
  rw [Option.bind_some]
  dsimp only
  have l3 : (([e, b, c] : List Int).length : Int) = 3 := rfl
  rw [if_pos rfl, l3, show ((3 : Int) == 3) = true from rfl, conf_Take.j0, if_pos rfl, l3, if_pos (by decide), if_pos (by decide), if_pos (by decide)]
  have r0 : rd [e, b, c] 0 = e := rfl
  have r1 : rd [e, b, c] 1 = b := rfl
  have r2 : rd [e, b, c] 2 = c := rfl
  rw [r0, r1, r2, conf_Take.j1]
  unfold num_Source_Err.f
  rw [Option.bind_some]
  dsimp only
  rw [if_pos rfl, l3, if_pos rfl, may_f e b c m h (by omega) (by omega) _ (by omega), hy, Option.bind_some, conf_Take.j2, if_neg (by decide)]
  unfold num_Source_Err.f
  rw [Option.bind_some]
  dsimp only
  rw [if_pos rfl]
theorem end_f (l : List UInt8) (_hl : l.length ≤ 1000) : num_Source_End.f (BA l) (l.length : Int) 0 = some (0, BA l, (l.length : Int), 0) := by
  unfold num_Source_End.f num_Source_Left.f
  rw [Option.bind_some]
  dsimp only
  rw [BA_size, wrap_id (by omega) (by omega), if_neg (by omega)]
  unfold num_Source_Err.f
  rw [Option.bind_some]
theorem j0_t (hm : m.length ≤ 4) (hh : h.length ≤ 4) (k : Nat) (hk : 500 ≤ k) : tarnlaw11_ConfPuts.j0 k false e b c m h = some true := by
  obtain ⟨k, rfl⟩ : ∃ q, k = q + 1 := ⟨k - 1, by omega⟩
  rw [tarnlaw11_ConfPuts.j0, if_neg (by decide), ref_may_f e b c m h (by omega) (by omega) k (by omega), Option.bind_some]
  cases hy : mayB e b c m h with
  | false => rw [if_neg (by decide)]
  | true =>
    have hf := fits_of_may hy
    obtain ⟨s1, s2, s3⟩ := sizes hf
    have hs : sameP e b c m h e b c m h := ⟨rfl, rfl, rfl, rfl, rfl⟩
    rw [if_pos rfl, put_f hf, Option.bind_some]
    unfold num_From.f
    rw [Option.bind_some]
    dsimp only
    rw [take_conf_f hf hy k (by omega), Option.bind_some]
    dsimp only
    rw [ref_put_conf_f hf k (by omega), Option.bind_some, if_pos rfl, end_f _ (by rw [List.length_append, List.length_append]; omega), Option.bind_some]
    dsimp only
    rw [if_pos rfl, ref_same_f _ _ _ _ _ _ _ _ _ _ (by omega) (by omega) k (by omega), decide_eq_true hs, Option.bind_some, if_pos rfl, same_f _ _ _ _ _ _ _ _ _ _ (by omega) (by omega) k (by omega), decide_eq_true hs, Option.bind_some]
end
theorem ConfPuts : tarnlaw11_ConfPuts.Pure := by
  intro a0 a1 a2 L3 L4 o _ _
  obtain ⟨⟨e, b, c, m, h⟩, ⟨hm, hh⟩, hk'⟩ := near_any o a0 a1 a2 L3 L4
  have hm' : m.length ≤ 4 := hm
  have hh' : h.length ≤ 4 := hh
  have hne : ∀ x : Bool, (x != x) = false := fun x => by cases x <;> rfl
  refine ⟨600, ?_⟩
  unfold tarnlaw11_ConfPuts.f
  rw [hk' 600 (by omega), Option.bind_some]
  dsimp only
  rw [awake_f 600 (by omega), Option.bind_some, if_pos rfl, may_f e b c m h (by omega) (by omega) _ (by omega), Option.bind_some, ref_may_f e b c m h (by omega) (by omega) _ (by omega), Option.bind_some, hne, if_neg (by decide),
    none_f e b c m h (by omega) (by omega) _ (by omega), Option.bind_some, ref_none_f e b c m h (by omega) (by omega) _ (by omega), Option.bind_some, hne, if_neg (by decide),
    lists_f m h (by omega) (by omega) _ (by omega) (by omega), Option.bind_some, ref_lists_f m h (by omega) (by omega) _ (by omega) (by omega), Option.bind_some, hne]
  exact j0_t hm' hh' 600 (by omega)
end Go.Proofs.Ytjjcfipnainpiab.Pure
