/- Who is in a configuration, and who is behind whom: told as the document says, for every configuration near one that may be and every number; no conditions. -/
import Derived.Test.YtjjcfipnainpiabPNodesx6
import Derived.Test.YtjjcfipnainpiabConfPure
namespace Go.Proofs.Ytjjcfipnainpiab.Pure
open Go.RowKit Go.Proofs Go.Proofs.Ytjjcfipnainpiab.PNodes Go.Proofs.YtjjcfipnainpiabW.PrintWords Go.Proofs.YtjjcfipnainpiabW.PrintLast Go.Proofs.Ytjjcfipnainpiab.X

/-- The first place of a number; -1: none. -/
def ix (n : Int) : Nat → List Int → Int
  | _, [] => -1
  | i, x :: s => if n = x then (i : Int) else ix n (i + 1) s
theorem index_l0 (n : Int) : ∀ (s p : List Int), (p ++ s).length ≤ 1000 → ∀ k, s.length + 1 ≤ k → slices_Index_int_int.l0 k (p ++ s) n ((p ++ s).length : Int) (p.length : Int) = some (ix n p.length s) := by
  intro s
  induction s with
  | nil =>
    intro p hp k hk
    obtain ⟨k, rfl⟩ : ∃ q, k = q + 1 := ⟨k - 1, by simp at hk; omega⟩
    rw [slices_Index_int_int.l0, if_neg (by simp)]
    rfl
  | cons x s ih =>
    intro p hp k hk
    obtain ⟨k, rfl⟩ : ∃ q, k = q + 1 := ⟨k - 1, by simp at hk; omega⟩
    have hp' : p.length + (s.length + 1) ≤ 1000 := by simpa using hp
    rw [slices_Index_int_int.l0, if_pos (by simp; omega), if_pos (by omega), if_pos (by simp; omega), rd_mid]
    by_cases c : n = x
    · rw [if_pos c]; simp [ix, c]
    · rw [if_neg c, succ_wrap _ (by omega), app_cons]
      have := ih (p ++ [x]) (by simp; omega) k (by simp at hk; omega)
      rw [len_snoc] at this
      rw [this]
      simp [ix, c]
theorem index_f (n : Int) (l : List Int) (hl : l.length ≤ 1000) (k : Nat) (hk : l.length + 1 ≤ k) : slices_Index_int_int.f k l n = some (ix n 0 l) := index_l0 n l [] (by simpa using hl) k hk
theorem ix_has (n : Int) : ∀ (l : List Int) (i : Nat), decide (ix n i l ≥ 0) = hasB n l := by
  intro l
  induction l with
  | nil => intro i; rfl
  | cons x s ih =>
    intro i
    by_cases c : n = x
    · simp [ix, hasB, c]
    · have c' : ¬ x = n := fun h => c h.symm
      rw [ix, if_neg c, ih]
      simp [hasB, c']
theorem contains_f (n : Int) (l : List Int) (hl : l.length ≤ 1000) (k : Nat) (hk : l.length + 1 ≤ k) : slices_Contains_int_int.f k l n = some (hasB n l) := by
  unfold slices_Contains_int_int.f
  rw [index_f n l hl k hk, Option.bind_some, ix_has]
theorem mirrors_f (a b c : Int) (m h : List Int) (n : Int) (hm : m.length ≤ 1000) (k : Nat) (hk : m.length + 1 ≤ k) : conf_Mirrors.f k a b c m h n = some (hasB n m) := by
  unfold conf_Mirrors.f
  rw [contains_f n m hm k hk, Option.bind_some]
theorem chains_f (a b c : Int) (m h : List Int) (n : Int) (hm : h.length ≤ 1000) (k : Nat) (hk : h.length + 1 ≤ k) : conf_Chains.f k a b c m h n = some (hasB n h) := by
  unfold conf_Chains.f
  rw [contains_f n h hm k hk, Option.bind_some]
/-- The first one; -1: there is none. -/
def hd1 : List Int → Int
  | [] => -1
  | y :: _ => y
/-- Who is behind a number. -/
def bh (n : Int) : List Int → Int
  | [] => -1
  | x :: s => if n = x then hd1 s else bh n s
theorem behind_ix (n : Int) : ∀ (s p : List Int), (p ++ s).length ≤ 1000 →
    (if ix n p.length s < 0 then (some (-1)) else (if (wrap64 (ix n p.length s + 1)) = ((p ++ s).length : Int) then (some (-1)) else (if 0 ≤ (wrap64 (ix n p.length s + 1)) then (if (wrap64 (ix n p.length s + 1)) < ((p ++ s).length : Int) then (some (rd (p ++ s) (wrap64 (ix n p.length s + 1)))) else (none)) else (none)))) = some (bh n s) := by
  intro s
  induction s with
  | nil => intro p hp; simp [ix, bh]
  | cons x s ih =>
    intro p hp
    have hp' : p.length + (s.length + 1) ≤ 1000 := by simpa using hp
    by_cases c : n = x
    · rw [ix, if_pos c, bh, if_pos c, if_neg (by omega), succ_wrap _ (by omega)]
      cases s with
      | nil => rw [if_pos (by simp)]; rfl
      | cons y s =>
        rw [if_neg (by simp; omega), if_pos (by omega), if_pos (by simp; omega)]
        have := rd_mid (p ++ [x]) s y
        rw [len_snoc, ← app_cons] at this
        rw [this]
        rfl
    · rw [ix, if_neg c, bh, if_neg c, app_cons]
      have := ih (p ++ [x]) (by simp; omega)
      rw [len_snoc] at this
      exact this
theorem behind_f (a b c : Int) (m h : List Int) (n : Int) (hm : h.length ≤ 1000) (k : Nat) (hk : h.length + 1 ≤ k) : conf_Behind.f k a b c m h n = some (bh n h) := by
  unfold conf_Behind.f
  rw [index_f n h hm k hk, Option.bind_some]
  exact behind_ix n h [] (by simpa using hm)
theorem awake_f (k : Nat) (hk : 100 ≤ k) : tarnlaw11_awake.f k = some true := by
  obtain ⟨q, rfl⟩ : ∃ q, k = q + 100 := ⟨k - 100, by omega⟩
  unfold tarnlaw11_awake.f
  have hmay : conf_May.f (q + 100) 1 5 1 ([] : List Int) [3, 1] = some true := by kernel_rfl
  rw [Option.bind_some, hmay, Option.bind_some, if_pos rfl, behind_f _ _ _ _ _ _ (by decide) _ (by simp), Option.bind_some, if_pos (by rfl), behind_f _ _ _ _ _ _ (by decide) _ (by simp), Option.bind_some, if_pos (by rfl),
    chains_f _ _ _ _ _ _ (by decide) _ (by simp), Option.bind_some, if_pos (by rfl), mirrors_f _ _ _ _ _ _ (by decide) _ (by simp), Option.bind_some]
  rfl
/-! compact of a sorted list -/
def SortedL (l : List Int) : Prop := l.Pairwise (· < ·)
theorem sorted_get {zs : List Int} (h : zs.Pairwise (· ≤ ·)) {i j : Nat} (hij : i ≤ j) (hj : j < zs.length) : zs.toArray[i]! ≤ zs.toArray[j]! := by
  have hi : i < zs.length := by omega
  rw [getElem!_pos zs.toArray i (by simpa using hi), getElem!_pos zs.toArray j (by simpa using hj)]
  rcases Nat.lt_or_ge i j with h' | h'
  · exact List.pairwise_iff_getElem.1 h i j hi hj h'
  · have : i = j := by omega
    subst this
    exact Int.le_refl _
theorem keeps_iff (d : Array Int) (j : Nat) : Lib.keeps d j = true ↔ j = 0 ∨ d[j]! ≠ d[j - 1]! := by
  rcases Nat.eq_zero_or_pos j with h | h
  · subst h; simp [Lib.keeps_lt_one d 0 (by omega)]
  · constructor
    · intro hk
      refine Or.inr fun he => ?_
      rw [Lib.keeps_neg h he] at hk
      cases hk
    · rintro (h' | h')
      · omega
      · exact Lib.keeps_pos h'
theorem compact_sorted {zs : List Int} (h : zs.Pairwise (· ≤ ·)) : SortedL (Lib.compact zs) := by
  unfold SortedL Lib.compact Lib.compactUpTo
  rw [List.pairwise_map]
  have hp : ((List.range zs.length).filter (Lib.keeps zs.toArray)).Pairwise (· < ·) := List.Pairwise.filter _ List.pairwise_lt_range
  refine List.Pairwise.imp_of_mem ?_ hp
  intro i j hi hj hij
  rw [List.mem_filter, List.mem_range] at hi hj
  have h1 := sorted_get h (show i ≤ j - 1 by omega) (by omega)
  have h2 := sorted_get h (show j - 1 ≤ j by omega) hj.1
  rcases (keeps_iff _ _).1 hj.2 with h3 | h3
  · omega
  · omega
theorem compact_mem {zs : List Int} (x : Int) : x ∈ Lib.compact zs ↔ x ∈ zs := by
  unfold Lib.compact Lib.compactUpTo
  rw [List.mem_map]
  constructor
  · rintro ⟨i, hi, rfl⟩
    rw [List.mem_filter, List.mem_range] at hi
    rw [getElem!_pos zs.toArray i (by simpa using hi.1)]
    simp
  · intro hx
    obtain ⟨i, hi, rfl⟩ := List.mem_iff_getElem.1 hx
    have key : ∀ (n i : Nat) (hi : i < zs.length), i ≤ n → ∃ a, a ∈ (List.range zs.length).filter (Lib.keeps zs.toArray) ∧ zs.toArray[a]! = zs[i] := by
      intro n
      induction n with
      | zero =>
        intro i hi hn
        have : i = 0 := by omega
        subst this
        exact ⟨0, List.mem_filter.2 ⟨List.mem_range.2 hi, (keeps_iff _ _).2 (Or.inl rfl)⟩, by rw [getElem!_pos zs.toArray 0 (by simpa using hi)]; simp⟩
      | succ n ih =>
        intro i hi hn
        have hg : zs.toArray[i]! = zs[i] := by rw [getElem!_pos zs.toArray i (by simpa using hi)]; simp
        by_cases hk : Lib.keeps zs.toArray i = true
        · exact ⟨i, List.mem_filter.2 ⟨List.mem_range.2 hi, hk⟩, hg⟩
        · have hne : ¬ (i = 0 ∨ zs.toArray[i]! ≠ zs.toArray[i - 1]!) := fun h => hk ((keeps_iff _ _).2 h)
          have h0 : i ≠ 0 := fun h => hne (Or.inl h)
          have he : zs.toArray[i]! = zs.toArray[i - 1]! := Classical.byContradiction fun h => hne (Or.inr h)
          have hg' : zs.toArray[i - 1]! = zs[i - 1] := by rw [getElem!_pos zs.toArray (i - 1) (by simp; omega)]; simp
          obtain ⟨a, ha, hv⟩ := ih (i - 1) (by omega) (by omega)
          exact ⟨a, ha, by rw [hv, ← hg', ← he, hg]⟩
    exact key i i hi (Nat.le_refl _)
theorem all_sorted (a b : List Int) : SortedL (allOf a b) := by
  unfold allOf
  refine compact_sorted ?_
  have := List.pairwise_mergeSort (le := fun (x y : Int) => decide (x ≤ y)) (by intro a b c; simp; omega) (by intro a b; simp; omega) (a ++ b)
  exact this.imp (by intro a b h; simpa using h)
theorem all_mem (a b : List Int) (x : Int) : x ∈ allOf a b ↔ x ∈ a ∨ x ∈ b := by
  unfold allOf
  rw [compact_mem, List.mem_mergeSort, List.mem_append]
/-! the law -/
theorem hasB_snoc (n x : Int) (p : List Int) : hasB n (p ++ [x]) = (hasB n p || (x == n)) := by
  induction p with
  | nil => simp [hasB]
  | cons y p ih => rw [List.cons_append, hasB, ih, hasB, Bool.or_assoc]
theorem hasB_no {n : Int} {l : List Int} (h : n ∉ l) : hasB n l = false := by
  cases e : hasB n l with
  | false => rfl
  | true => exact absurd ((hasB_iff n l).1 e) h
theorem bh_skip (n : Int) (s : List Int) : ∀ p : List Int, n ∉ p → bh n (p ++ s) = bh n s
  | [], _ => rfl
  | x :: p, h => by
    have h1 : ¬ n = x := fun e => h (by rw [e]; exact List.mem_cons_self)
    rw [List.cons_append, bh, if_neg h1]
    exact bh_skip n s p (fun hm => h (List.mem_cons_of_mem _ hm))
theorem bh_none (n : Int) (l : List Int) (h : n ∉ l) : bh n l = -1 := by
  have := bh_skip n [] l h
  rw [List.append_nil] at this
  rw [this]
  rfl
theorem node_f (n : Int) : conf_Node.f n = some (decide (0 ≤ n ∧ n < 5)) := by
  unfold conf_Node.f
  by_cases c : n ≥ 0
  · rw [if_pos c]; congr 1; apply decide_eq_decide.mpr; omega
  · rw [if_neg c, decide_eq_false (by omega)]
theorem gate_f (n : Int) : conf_Gate.f n = some (decide (5 ≤ n ∧ n < 7)) := by
  unfold conf_Gate.f
  by_cases c : n ≥ 5
  · rw [if_pos c]; congr 1; apply decide_eq_decide.mpr; omega
  · rw [if_neg c, decide_eq_false (by omega)]
section
variable {n e b c : Int} {m h : List Int}
theorem fin_t (hm : m.length ≤ 3) (hh : h.length ≤ 3) (A : List Int) (k : Nat) (hk : 120 ≤ k) : tarnlaw11_ConfNodes.l2 k n (hasB n m) (hasB n h) (bh n h) A (A.length : Int) 5 e b c m h = some true := by
  obtain ⟨k, rfl⟩ : ∃ q, k = q + 1 := ⟨k - 1, by omega⟩
  rw [tarnlaw11_ConfNodes.l2, if_neg (by decide), awake_f k (by omega), Option.bind_some, if_pos rfl, if_pos rfl, mirrors_f _ _ _ _ _ _ (by omega) _ (by omega), Option.bind_some, if_pos (by simp),
    chains_f _ _ _ _ _ _ (by omega) _ (by omega), Option.bind_some, if_pos (by simp), behind_f _ _ _ _ _ _ (by omega) _ (by omega), Option.bind_some, if_pos rfl, node_f, Option.bind_some, gate_f]
  have g : (if n = 5 then (some (decide (5 ≤ n ∧ n < 7) == true)) else (some (decide (5 ≤ n ∧ n < 7) == (n == 6)))) = some true := by
    by_cases c5 : n = 5
    · rw [if_pos c5, decide_eq_true (by omega)]; rfl
    · rw [if_neg c5]
      by_cases c6 : n = 6
      · rw [decide_eq_true (by omega), c6]; rfl
      · rw [decide_eq_false (by omega), show (n == 6) = false by simpa using c6]; rfl
  by_cases c0 : n ≥ 0
  · have e1 : decide (0 ≤ n ∧ n < 5) = decide (n ≤ 4) := decide_eq_decide.mpr (by omega)
    rw [if_pos c0, e1, if_pos (by simp), Option.bind_some]
    exact g
  · rw [if_neg c0, decide_eq_false (by omega), if_pos (by decide), Option.bind_some]
    exact g
theorem l4_t (hh : h.length ≤ 3) (K : Nat) (x6 x7 : Bool) (x8 : Int) (A : List Int) (x12 x13 : Int) (g : Bool)
    (H : ∀ k, K ≤ k → (if (g || hasB x13 h) = true then (if x12 ≥ (A.length : Int) then (some false) else (if 0 ≤ x12 then (if x12 < (A.length : Int) then (if (rd A x12) = x13 then (tarnlaw11_ConfNodes.l2 k n x6 x7 x8 A (wrap64 (x12 + 1)) (wrap64 (x13 + 1)) e b c m h) else (some false)) else (none)) else (none))) else (tarnlaw11_ConfNodes.l2 k n x6 x7 x8 A x12 (wrap64 (x13 + 1)) e b c m h)) = some true) :
    ∀ (s p : List Int), p ++ s = h → ∀ k, K + s.length + 1 ≤ k → tarnlaw11_ConfNodes.l4 k n x6 x7 x8 A x12 x13 (g || hasB x13 p) (p.length : Int) e b c m h = some true := by
  intro s
  induction s with
  | nil =>
    intro p hp k hk
    obtain ⟨k, rfl⟩ : ∃ q, k = q + 1 := ⟨k - 1, by simp at hk; omega⟩
    rw [List.append_nil] at hp
    subst hp
    rw [tarnlaw11_ConfNodes.l4, if_neg (by omega)]
    exact H k (by simp at hk; omega)
  | cons x s ih =>
    intro p hp k hk
    obtain ⟨k, rfl⟩ : ∃ q, k = q + 1 := ⟨k - 1, by simp at hk; omega⟩
    have hl : p.length + (s.length + 1) = h.length := by rw [← hp]; simp
    have hrd : rd h (p.length : Int) = x := by rw [← hp]; exact rd_mid p s x
    have := ih (p ++ [x]) (by rw [← hp]; simp) k (by simp at hk; omega)
    rw [len_snoc, hasB_snoc] at this
    rw [tarnlaw11_ConfNodes.l4, if_pos (by omega)]
    cases hf : (g || hasB x13 p) with
    | true =>
      rw [← Bool.or_assoc, hf] at this
      rw [if_pos rfl, succ_wrap _ (by omega)]
      exact this
    | false =>
      rw [← Bool.or_assoc, hf] at this
      rw [if_neg (by decide), if_pos (by omega), hrd, succ_wrap _ (by omega)]
      exact this
theorem l3_t (hm : m.length ≤ 3) (K : Nat) (x6 x7 : Bool) (x8 : Int) (A : List Int) (x12 x13 : Int)
    (H : ∀ k, K ≤ k → tarnlaw11_ConfNodes.l4 k n x6 x7 x8 A x12 x13 (hasB x13 m) 0 e b c m h = some true) :
    ∀ (s p : List Int), p ++ s = m → ∀ k, K + s.length + 1 ≤ k → tarnlaw11_ConfNodes.l3 k n x6 x7 x8 A x12 x13 (hasB x13 p) (p.length : Int) e b c m h = some true := by
  intro s
  induction s with
  | nil =>
    intro p hp k hk
    obtain ⟨k, rfl⟩ : ∃ q, k = q + 1 := ⟨k - 1, by simp at hk; omega⟩
    rw [List.append_nil] at hp
    subst hp
    rw [tarnlaw11_ConfNodes.l3, if_neg (by omega)]
    exact H k (by simp at hk; omega)
  | cons x s ih =>
    intro p hp k hk
    obtain ⟨k, rfl⟩ : ∃ q, k = q + 1 := ⟨k - 1, by simp at hk; omega⟩
    have hl : p.length + (s.length + 1) = m.length := by rw [← hp]; simp
    have hrd : rd m (p.length : Int) = x := by rw [← hp]; exact rd_mid p s x
    have := ih (p ++ [x]) (by rw [← hp]; simp) k (by simp at hk; omega)
    rw [len_snoc, hasB_snoc] at this
    rw [tarnlaw11_ConfNodes.l3, if_pos (by omega)]
    cases hf : hasB x13 p with
    | true =>
      rw [hf] at this
      rw [if_pos rfl, succ_wrap _ (by omega)]
      exact this
    | false =>
      rw [hf] at this
      rw [if_neg (by decide), if_pos (by omega), hrd, succ_wrap _ (by omega)]
      exact this
theorem l2_t (hm : m.length ≤ 3) (hh : h.length ≤ 3) (A : List Int) (hA : SortedL A) (hmem : ∀ x, x ∈ A ↔ x ∈ m ∨ x ∈ h) (h4 : ∀ x ∈ A, 0 ≤ x ∧ x ≤ 4) : ∀ (d j : Nat), j + d = 5 → ∀ P S : List Int, A = P ++ S → (∀ x ∈ P, x < (j : Int)) → (∀ x ∈ S, (j : Int) ≤ x) →
    ∀ k, 120 + 20 * d ≤ k → tarnlaw11_ConfNodes.l2 k n (hasB n m) (hasB n h) (bh n h) A (P.length : Int) (j : Int) e b c m h = some true := by
  intro d
  induction d with
  | zero =>
    intro j hj P S hPS hP hS k hk
    have hj5 : j = 5 := by omega
    subst hj5
    have hS0 : S = [] := by
      cases S with
      | nil => rfl
      | cons y S =>
        have h1 := hS y List.mem_cons_self
        have h2 := h4 y (by rw [hPS]; simp)
        omega
    have hl : P.length = A.length := by rw [hPS, hS0, List.append_nil]
    rw [hl]
    exact fin_t hm hh A k (by omega)
  | succ d ih =>
    intro j hj P S hPS hP hS k hk
    obtain ⟨k, rfl⟩ : ∃ q, k = q + 1 := ⟨k - 1, by omega⟩
    have hlen : A.length = P.length + S.length := by rw [hPS, List.length_append]
    have hA9 : A.length ≤ 100 := by
      have := hA
      unfold SortedL at this
      -- strictly rising, between 0 and 4
      have key : ∀ (l : List Int) (i : Int), l.Pairwise (· < ·) → (∀ x ∈ l, i ≤ x ∧ x ≤ 4) → (l.length : Int) ≤ max 0 (5 - i) := by
        intro l
        induction l with
        | nil => intro i _ _; simp; omega
        | cons y l ihl =>
          intro i hp hx
          have h1 := hx y List.mem_cons_self
          have h2 := ihl (y + 1) (List.pairwise_cons.1 hp).2 (fun x hxl => ⟨by have := (List.pairwise_cons.1 hp).1 x hxl; omega, (hx x (List.mem_cons_of_mem _ hxl)).2⟩)
          simp only [List.length_cons]
          omega
      have := key A 0 this h4
      omega
    rw [tarnlaw11_ConfNodes.l2, if_pos (by omega)]
    refine l3_t hm (K := 120 + 20 * d + 5) _ _ _ A _ _ ?_ m [] rfl k (by omega)
    intro k hk
    have := l4_t (n := n) (e := e) (b := b) (c := c) (m := m) (h := h) hh (K := 120 + 20 * d) (hasB n m) (hasB n h) (bh n h) A (P.length : Int) (j : Int) (hasB (j : Int) m) ?_ h [] rfl k (by omega)
    · rw [show hasB (j : Int) [] = false from rfl, Bool.or_false] at this
      exact this
    intro k hk
    rw [succ_wrap j (by omega)]
    by_cases hf : (hasB (j : Int) m || hasB (j : Int) h) = true
    · rw [if_pos hf]
      have hjA : (j : Int) ∈ A := by
        rw [hmem]
        rcases Bool.or_eq_true_iff.1 hf with hf | hf
        · exact Or.inl ((hasB_iff _ _).1 hf)
        · exact Or.inr ((hasB_iff _ _).1 hf)
      have hjS : (j : Int) ∈ S := by
        rw [hPS] at hjA
        rcases List.mem_append.1 hjA with hx | hx
        · have := hP _ hx; omega
        · exact hx
      cases S with
      | nil => cases hjS
      | cons y S =>
        have hsort : (y :: S).Pairwise (· < ·) := by
          unfold SortedL at hA
          rw [hPS] at hA
          exact (List.pairwise_append.1 hA).2.1
        have hyj : y = (j : Int) := by
          rcases List.mem_cons.1 hjS with hx | hx
          · exact hx.symm
          · have h1 := (List.pairwise_cons.1 hsort).1 _ hx
            have h2 := hS y List.mem_cons_self
            omega
        have hrd : rd A (P.length : Int) = (j : Int) := by rw [hPS, rd_mid, hyj]
        have hl2 : A.length = P.length + (S.length + 1) := by rw [hlen]; rfl
        rw [if_neg (by omega), if_pos (by omega), if_pos (by omega), if_pos hrd, succ_wrap P.length (by omega)]
        have := ih (j + 1) (by omega) (P ++ [y]) S (by rw [hPS]; simp) (fun x hx => by
          rcases List.mem_append.1 hx with hx | hx
          · have := hP x hx; omega
          · rw [List.mem_singleton.1 hx, hyj]; omega) (fun x hx => by have := (List.pairwise_cons.1 hsort).1 x hx; omega) k hk
        rw [len_snoc] at this
        exact this
    · rw [if_neg hf]
      refine ih (j + 1) (by omega) P S hPS (fun x hx => by have := hP x hx; omega) (fun x hx => ?_) k hk
      have h1 := hS x hx
      have h2 : x ≠ (j : Int) := by
        intro hxe
        apply hf
        have : (j : Int) ∈ A := by rw [hPS, ← hxe]; exact List.mem_append_right _ hx
        rcases (hmem _).1 this with h' | h'
        · rw [(hasB_iff _ _).2 h']; rfl
        · rw [(hasB_iff _ _).2 h', Bool.or_true]
      omega
/-- Where the rows are told. -/
def Rest (K : Nat) (n e b c : Int) (m h : List Int) (x6 x7 : Bool) (x8 : Int) : Prop := ∀ k, K ≤ k → ((conf_All.f e b c m h).bind fun t => (tarnlaw11_ConfNodes.l2 k n x6 x7 x8 t 0 0 e b c m h)) = some true
theorem l1_done (hh : h.length ≤ 3) (K : Nat) (x6 : Bool) (x8 : Int) (H : Rest K n e b c m h x6 true x8) : ∀ (s p : List Int), p ++ s = h → n ∉ s → ∀ k, K + s.length + 1 ≤ k →
    tarnlaw11_ConfNodes.l1 k n x6 true x8 (p.length : Int) e b c m h = some true := by
  intro s
  induction s with
  | nil =>
    intro p hp hn k hk
    obtain ⟨k, rfl⟩ : ∃ q, k = q + 1 := ⟨k - 1, by simp at hk; omega⟩
    rw [List.append_nil] at hp
    rw [tarnlaw11_ConfNodes.l1, if_neg (by rw [hp]; omega)]
    exact H k (by simp at hk; omega)
  | cons x s ih =>
    intro p hp hn k hk
    obtain ⟨k, rfl⟩ : ∃ q, k = q + 1 := ⟨k - 1, by simp at hk; omega⟩
    have hl : p.length + (s.length + 1) = h.length := by rw [← hp]; simp
    have hrd : rd h (p.length : Int) = x := by rw [← hp]; exact rd_mid p s x
    have hxn : ¬ x = n := fun e => hn (by rw [e]; exact List.mem_cons_self)
    have := ih (p ++ [x]) (by rw [← hp]; simp) (fun hx => hn (List.mem_cons_of_mem _ hx)) k (by simp at hk; omega)
    rw [len_snoc] at this
    rw [tarnlaw11_ConfNodes.l1, if_pos (by omega), if_pos rfl, if_pos (by omega), hrd, if_neg hxn, succ_wrap _ (by omega)]
    exact this
theorem l1_find (hh : h.length ≤ 3) (hd : h.Nodup) (K : Nat) (x6 : Bool) (H : Rest K n e b c m h x6 (hasB n h) (bh n h)) : ∀ (s p : List Int), p ++ s = h → n ∉ p → ∀ k, K + s.length + 1 ≤ k →
    tarnlaw11_ConfNodes.l1 k n x6 false (-1) (p.length : Int) e b c m h = some true := by
  intro s
  induction s with
  | nil =>
    intro p hp hn k hk
    obtain ⟨k, rfl⟩ : ∃ q, k = q + 1 := ⟨k - 1, by simp at hk; omega⟩
    rw [List.append_nil] at hp
    rw [hp] at hn
    rw [tarnlaw11_ConfNodes.l1, if_neg (by rw [hp]; omega)]
    have := H k (by simp at hk; omega)
    rw [hasB_no hn, bh_none n h hn] at this
    exact this
  | cons x s ih =>
    intro p hp hn k hk
    obtain ⟨k, rfl⟩ : ∃ q, k = q + 1 := ⟨k - 1, by simp at hk; omega⟩
    have hl : p.length + (s.length + 1) = h.length := by rw [← hp]; simp
    have hrd : rd h (p.length : Int) = x := by rw [← hp]; exact rd_mid p s x
    rw [tarnlaw11_ConfNodes.l1, if_pos (by omega), if_neg (by decide), if_pos (by omega), hrd, succ_wrap _ (by omega)]
    by_cases hxn : x = n
    · have hxe : (x == n) = true := by simpa using hxn
      have hns : n ∉ s := by
        rw [← hp] at hd
        have := (List.nodup_append.1 hd).2.1
        rw [List.nodup_cons, hxn] at this
        exact this.1
      have hhas : hasB n h = true := (hasB_iff _ _).2 (by rw [← hp, hxn]; simp)
      have hbh : bh n h = hd1 s := by rw [← hp, bh_skip n _ p hn, bh, if_pos hxn.symm]
      rw [hhas, hbh] at H
      rw [if_pos hxn, hxe]
      cases s with
      | nil =>
        rw [if_neg (by simp at hl; omega)]
        have := l1_done hh K x6 (-1) H [] (p ++ [x]) (by rw [← hp]; simp) hns k (by simp at hk ⊢; omega)
        rw [len_snoc] at this
        exact this
      | cons y s =>
        have hrd2 : rd h ((p.length + 1 : Nat) : Int) = y := by
          rw [← hp, app_cons]
          have := rd_mid (p ++ [x]) s y
          rw [len_snoc] at this
          exact this
        rw [if_pos (by simp at hl; omega), if_pos (by omega), hrd2]
        have := l1_done hh K x6 y H (y :: s) (p ++ [x]) (by rw [← hp]; simp) hns k (by simp at hk ⊢; omega)
        rw [len_snoc] at this
        exact this
    · have hxe : (x == n) = false := by simpa using hxn
      rw [if_neg hxn, hxe]
      have := ih (p ++ [x]) (by rw [← hp]; simp) (fun hx => by
        rcases List.mem_append.1 hx with hx | hx
        · exact hn hx
        · exact hxn (List.mem_singleton.1 hx).symm) k (by simp at hk; omega)
      rw [len_snoc] at this
      exact this
theorem l0_t (hm : m.length ≤ 3) (K : Nat) (H : ∀ k, K ≤ k → tarnlaw11_ConfNodes.l1 k n (hasB n m) false (-1) 0 e b c m h = some true) : ∀ (s p : List Int), p ++ s = m → ∀ k, K + s.length + 1 ≤ k →
    tarnlaw11_ConfNodes.l0 k n (hasB n p) false (-1) (p.length : Int) e b c m h = some true := by
  intro s
  induction s with
  | nil =>
    intro p hp k hk
    obtain ⟨k, rfl⟩ : ∃ q, k = q + 1 := ⟨k - 1, by simp at hk; omega⟩
    rw [List.append_nil] at hp
    subst hp
    rw [tarnlaw11_ConfNodes.l0, if_neg (by omega)]
    exact H k (by simp at hk; omega)
  | cons x s ih =>
    intro p hp k hk
    obtain ⟨k, rfl⟩ : ∃ q, k = q + 1 := ⟨k - 1, by simp at hk; omega⟩
    have hl : p.length + (s.length + 1) = m.length := by rw [← hp]; simp
    have hrd : rd m (p.length : Int) = x := by rw [← hp]; exact rd_mid p s x
    have := ih (p ++ [x]) (by rw [← hp]; simp) k (by simp at hk; omega)
    rw [len_snoc, hasB_snoc] at this
    rw [tarnlaw11_ConfNodes.l0, if_pos (by omega)]
    cases hf : hasB n p with
    | true =>
      rw [hf] at this
      rw [if_pos rfl, succ_wrap _ (by omega)]
      exact this
    | false =>
      rw [hf] at this
      rw [if_neg (by decide), if_pos (by omega), hrd, succ_wrap _ (by omega)]
      exact this
end
theorem ConfNodes : tarnlaw11_ConfNodes.Pure := by
  intro a0 a1 a2 L3 L4 n _ _
  obtain ⟨⟨e, b, c, m, h⟩, hr, hk'⟩ := near_f5 a0 a1 a2 L3 L4
  obtain ⟨_, _, _, hl⟩ := hr
  have hl' : listsB m h = true := hl
  unfold listsB at hl'
  rw [Bool.and_eq_true] at hl'
  obtain ⟨m1, m2, m3, m4⟩ := nodesB_iff m 0 hl'.1
  obtain ⟨h1, h2, h3, h4⟩ := nodesB_iff h 1 hl'.2
  refine ⟨400, ?_⟩
  unfold tarnlaw11_ConfNodes.f
  rw [hk' 400 (by omega), Option.bind_some]
  refine l0_t m4 (K := 300) ?_ m [] rfl 400 (by omega)
  intro k hk
  refine l1_find h4 h2 (K := 260) _ ?_ h [] rfl (by simp) k (by omega)
  intro k hk
  have hf : conf_All.f e b c m h = some (allOf m h) := by
    unfold conf_All.f
    rw [if_pos (by omega), if_pos (by omega)]
  rw [hf, Option.bind_some]
  refine l2_t m4 h4 (allOf m h) (all_sorted m h) (all_mem m h) (fun x hx => ?_) 5 0 rfl [] (allOf m h) rfl (by simp) (fun x hx => ?_) k (by omega)
  · rcases (all_mem m h x).1 hx with hx | hx
    · exact m1 x hx
    · exact h1 x hx
  · rcases (all_mem m h x).1 hx with hx | hx
    · exact (m1 x hx).1
    · exact (h1 x hx).1
end Go.Proofs.Ytjjcfipnainpiab.Pure
