/- What conf's and tarnref11's words on lists of nodes compute, told by plain words; a configuration near what may be. -/
import Derived.Test.YthldophikcgkcaaPPlacex2
import Derived.Test.YthldophikcgkcaaNum
namespace Go.Proofs.Ythldophikcgkcaa.X
open Go.RowKit Go.Proofs.Ythldophikcgkcaa.PPlace Go.Proofs.YthldophikcgkcaaW.PrintWords Go.Proofs.YthldophikcgkcaaW.PrintLast Go.Proofs.YthldophikcgkcaaW.PrintMore

def In (x : Int) : Prop := -9223372036854775808 ≤ x ∧ x ≤ 9223372036854775807
theorem in_of_wf {x : Int} (h : (Lit.int .i64 x).wf = true) : In x := by
  have e : IntKind.i64.min = -9223372036854775808 := by decide
  simp [Lit.wf] at h
  rw [e] at h
  exact h
theorem in_wrap (x : Int) : In (wrap64 x) := by unfold In wrap64; omega
theorem succ_wrap (n : Nat) (h : n ≤ 1000000) : wrap64 ((n : Int) + 1) = ((n + 1 : Nat) : Int) := by rw [wrap_id (by omega) (by omega)]; omega
theorem len_snoc (p : List Int) (x : Int) : (p ++ [x]).length = p.length + 1 := by simp
theorem app_cons (p s : List Int) (x : Int) : p ++ x :: s = (p ++ [x]) ++ s := by simp
theorem rd_mid (p s : List Int) (x : Int) : rd (p ++ x :: s) (p.length : Int) = x := by
  unfold rd
  rw [Int.toNat_natCast, List.getD_eq_getElem?_getD, List.getElem?_append_right (Nat.le_refl _)]
  simp
theorem take_mid (p s : List Int) : (p ++ s).take ((p.length : Int)).toNat = p := by rw [Int.toNat_natCast, List.take_left]
/-- Is a number in a list? -/
def hasB (n : Int) : List Int → Bool
  | [] => false
  | x :: s => (x == n) || hasB n s
theorem hasB_iff (n : Int) (l : List Int) : hasB n l = true ↔ n ∈ l := by
  induction l with
  | nil => simp [hasB]
  | cons x s ih =>
    constructor
    · intro h
      simp only [hasB, Bool.or_eq_true, beq_iff_eq] at h
      rcases h with h | h
      · rw [h]; exact List.mem_cons_self
      · exact List.mem_cons_of_mem _ (ih.1 h)
    · intro h
      rcases List.mem_cons.1 h with h | h
      · rw [hasB, h]; simp
      · rw [hasB, ih.2 h]; simp
theorem has_l0 (n : Int) : ∀ (s p : List Int), (p ++ s).length ≤ 1000 → ∀ k, s.length + 1 ≤ k → tarnref11_has.l0 k (p ++ s) n (p.length : Int) = some (hasB n s) := by
  intro s
  induction s with
  | nil =>
    intro p hp k hk
    obtain ⟨k, rfl⟩ : ∃ q, k = q + 1 := ⟨k - 1, by simp at hk; omega⟩
    rw [tarnref11_has.l0, if_neg (by simp)]
    rfl
  | cons x s ih =>
    intro p hp k hk
    obtain ⟨k, rfl⟩ : ∃ q, k = q + 1 := ⟨k - 1, by simp at hk; omega⟩
    have hp' : p.length + (s.length + 1) ≤ 1000 := by simpa using hp
    rw [tarnref11_has.l0, if_pos (by simp; omega), if_pos (by omega), rd_mid]
    by_cases c : x = n
    · rw [if_pos c]; simp [hasB, c]
    · rw [if_neg c, succ_wrap _ (by omega), app_cons]
      have := ih (p ++ [x]) (by simp; omega) k (by simp at hk; omega)
      rw [len_snoc] at this
      rw [this]
      simp [hasB, c]
theorem has_f (n : Int) (l : List Int) (hl : l.length ≤ 1000) (k : Nat) (hk : l.length + 1 ≤ k) : tarnref11_has.f k l n = some (hasB n l) := has_l0 n l [] (by simpa using hl) k hk
/-- Are these nodes, each once? -/
def goB : List Int → List Int → Bool
  | _, [] => true
  | p, x :: s => decide (0 ≤ x) && (decide (x ≤ 4) && (!hasB x p && goB (p ++ [x]) s))
def nodesB (l : List Int) (least : Int) : Bool := goB [] l && (decide ((l.length : Int) ≥ least) && decide ((l.length : Int) ≤ 3))
theorem ref_nodes_l0 (least : Int) : ∀ (s p : List Int), (p ++ s).length ≤ 1000 → ∀ k, (p ++ s).length + 5 + s.length ≤ k →
    tarnref11_nodes.l0 k (p ++ s) least (p.length : Int) = some (goB p s && (decide (((p ++ s).length : Int) ≥ least) && decide (((p ++ s).length : Int) ≤ 3))) := by
  intro s
  induction s with
  | nil =>
    intro p hp k hk
    obtain ⟨k, rfl⟩ : ∃ q, k = q + 1 := ⟨k - 1, by omega⟩
    rw [tarnref11_nodes.l0, if_neg (by simp)]
    by_cases c : ((p ++ []).length : Int) ≥ least
    · rw [if_pos c, decide_eq_true c]; simp [goB]
    · rw [if_neg c, decide_eq_false c]; simp [goB]
  | cons x s ih =>
    intro p hp k hk
    obtain ⟨k, rfl⟩ : ∃ q, k = q + 1 := ⟨k - 1, by omega⟩
    have hp' : p.length + (s.length + 1) ≤ 1000 := by simpa using hp
    have hk' : p.length + (s.length + 1) + 5 + (s.length + 1) ≤ k + 1 := by simpa using hk
    rw [tarnref11_nodes.l0, if_pos (by simp; omega), if_pos (by omega), rd_mid]
    by_cases c1 : x < 0
    · rw [if_pos c1]; simp [goB, show ¬ 0 ≤ x by omega]
    rw [if_neg c1]
    by_cases c2 : x > 4
    · rw [if_pos c2]; simp [goB, show ¬ x ≤ 4 by omega]
    rw [if_neg c2, if_pos (by simp; omega), take_mid, has_f x p (by omega) k (by omega), Option.bind_some]
    by_cases c3 : hasB x p = true
    · rw [if_pos c3]; simp [goB, c3]
    · rw [if_neg c3, succ_wrap _ (by omega), app_cons]
      have := ih (p ++ [x]) (by simp; omega) k (by simp; omega)
      rw [len_snoc] at this
      rw [this]
      simp [goB, c3, show 0 ≤ x by omega, show x ≤ 4 by omega]
theorem ref_nodes_f (l : List Int) (least : Int) (hl : l.length ≤ 1000) (k : Nat) (hk : 2 * l.length + 5 ≤ k) : tarnref11_nodes.f k l least = some (nodesB l least) := ref_nodes_l0 least l [] (by simpa using hl) k (by simp; omega)
def listsB (m c : List Int) : Bool := nodesB m 0 && nodesB c 1
theorem ref_lists_f (m c : List Int) (hm : m.length ≤ 1000) (hc : c.length ≤ 1000) (k : Nat) (h1 : 2 * m.length + 5 ≤ k) (h2 : 2 * c.length + 5 ≤ k) : tarnref11_Lists.f k m c = some (listsB m c) := by
  unfold tarnref11_Lists.f listsB
  rw [ref_nodes_f m 0 hm k h1, Option.bind_some, ref_nodes_f c 1 hc k h2, Option.bind_some]
  cases nodesB m 0 <;> rfl
theorem goB_mem : ∀ (s p : List Int), goB p s = true → ∀ x ∈ s, 0 ≤ x ∧ x ≤ 4 ∧ x ∉ p := by
  intro s
  induction s with
  | nil => intro p _ x hx; cases hx
  | cons y s ih =>
    intro p h x hx
    simp only [goB, Bool.and_eq_true, decide_eq_true_eq, Bool.not_eq_true'] at h
    obtain ⟨h1, h2, h3, h4⟩ := h
    rcases List.mem_cons.1 hx with rfl | hx
    · exact ⟨h1, h2, fun hm => by rw [(hasB_iff _ _).2 hm] at h3; cases h3⟩
    · obtain ⟨a, b, c⟩ := ih (p ++ [y]) h4 x hx
      exact ⟨a, b, fun hm => c (by simp [hm])⟩
theorem goB_nodup : ∀ (s p : List Int), goB p s = true → s.Nodup := by
  intro s
  induction s with
  | nil => intro p _; exact List.nodup_nil
  | cons y s ih =>
    intro p h
    have h' := h
    simp only [goB, Bool.and_eq_true, decide_eq_true_eq, Bool.not_eq_true'] at h
    obtain ⟨h1, h2, h3, h4⟩ := h
    exact List.nodup_cons.2 ⟨fun hm => (goB_mem s (p ++ [y]) h4 y hm).2.2 (by simp), ih (p ++ [y]) h4⟩
/-- What each list of a configuration that may be is. -/
theorem nodesB_iff (l : List Int) (least : Int) (h : nodesB l least = true) : (∀ x ∈ l, 0 ≤ x ∧ x ≤ 4) ∧ l.Nodup ∧ (l.length : Int) ≥ least ∧ l.length ≤ 3 := by
  unfold nodesB at h
  simp only [Bool.and_eq_true, decide_eq_true_eq] at h
  exact ⟨fun x hx => ⟨(goB_mem l [] h.1 x hx).1, (goB_mem l [] h.1 x hx).2.1⟩, goB_nodup l [] h.1, h.2.1, by omega⟩
/-- A configuration near what may be: its lists may be. -/
def Good (r : Int × Int × Int × List Int × List Int) : Prop := In r.1 ∧ In r.2.1 ∧ In r.2.2.1 ∧ listsB r.2.2.2.1 r.2.2.2.2 = true
theorem near_j5 (a0 a1 a2 : Int) (L3 L4 : List Int) (e b c : Int) (m h : List Int) (_he : In e) (_hb : In b) (_hc : In c) (_hl : listsB m h = true) (k : Nat) (hk : 1 ≤ k) : tarnlaw11_Near.j5 k 5 a0 a1 a2 L3 L4 e b c m h = some (e, b, c, m, h) := by
  obtain ⟨k, rfl⟩ : ∃ q, k = q + 1 := ⟨k - 1, by omega⟩
  rw [tarnlaw11_Near.j5, if_neg (by decide), if_neg (by decide), if_neg (by decide)]
theorem lists_new (x y : Int) (hx : 0 ≤ x ∧ x ≤ 3) (hy : 0 ≤ y ∧ y ≤ 3) : listsB [x] [y, 4] = true := by
  unfold listsB nodesB
  simp [goB, hasB]
  omega
theorem near_j3 (a0 a1 a2 : Int) (L3 L4 : List Int) (e b c : Int) (m h : List Int) (he : In e) (hb : In b) (hc : In c) (hm : m.length ≤ 4) (hh : h.length ≤ 4) :
    ∃ r, Good r ∧ ∀ k, 20 ≤ k → tarnlaw11_Near.j3 k 5 a0 a1 a2 L3 L4 e b c m h = some r := by
  have h53 : (Go.bits .and .i64 5 3 != 0) = true := by decide
  by_cases hl : listsB m h = true
  · refine ⟨(e, b, c, m, h), ⟨he, hb, hc, hl⟩, fun k hk => ?_⟩
    obtain ⟨k, rfl⟩ : ∃ q, k = q + 2 := ⟨k - 2, by omega⟩
    rw [tarnlaw11_Near.j3, ref_lists_f m h (by omega) (by omega) _ (by omega) (by omega), Option.bind_some, if_pos hl, tarnlaw11_Near.j4, if_neg (by decide)]
    exact near_j5 a0 a1 a2 L3 L4 e b c m h he hb hc hl k (by omega)
  · have q1 : 0 ≤ Go.bits .and .i64 (a1 / 2) 3 ∧ Go.bits .and .i64 (a1 / 2) 3 ≤ 3 := by rw [and_3]; omega
    have q2 : 0 ≤ Go.bits .and .i64 (a1 / 8) 3 ∧ Go.bits .and .i64 (a1 / 8) 3 ≤ 3 := by rw [and_3]; omega
    have hn := lists_new _ _ q1 q2
    refine ⟨(e, b, c, _, _), ⟨he, hb, hc, hn⟩, fun k hk => ?_⟩
    obtain ⟨k, rfl⟩ : ∃ q, k = q + 2 := ⟨k - 2, by omega⟩
    rw [tarnlaw11_Near.j3, ref_lists_f m h (by omega) (by omega) _ (by omega) (by omega), Option.bind_some, if_neg hl, tarnlaw11_Near.j4, h53, if_pos rfl]
    exact near_j5 a0 a1 a2 L3 L4 e b c _ _ he hb hc hn k (by omega)
theorem near_l1 (a0 a1 a2 : Int) (L3 L4 : List Int) (e b c : Int) (m : List Int) (he : In e) (hb : In b) (hc : In c) (hm : m.length ≤ 4) : ∀ (j i : Nat) (h : List Int), i + j = 4 → h.length = i →
    ∃ r, Good r ∧ ∀ k, 21 + j ≤ k → tarnlaw11_Near.l1 k 5 (i : Int) a0 a1 a2 L3 L4 e b c m h = some r := by
  intro j
  induction j with
  | zero =>
    intro i h hi hh
    obtain ⟨r, hr, hk'⟩ := near_j3 a0 a1 a2 L3 L4 e b c m h he hb hc hm (by omega)
    refine ⟨r, hr, fun k hk => ?_⟩
    obtain ⟨k, rfl⟩ : ∃ q, k = q + 1 := ⟨k - 1, by omega⟩
    rw [tarnlaw11_Near.l1, if_neg (show ¬ (i : Int) < 4 by omega), ite_self]
    exact hk' k (by omega)
  | succ j ih =>
    intro i h hi hh
    by_cases cl : (i : Int) < (L4.length : Int)
    · obtain ⟨r, hr, hk'⟩ := ih (i + 1) (h ++ [Go.bits .and .i64 (rd L4 (i : Int)) 7]) (by omega) (by simp; omega)
      refine ⟨r, hr, fun k hk => ?_⟩
      obtain ⟨k, rfl⟩ : ∃ q, k = q + 1 := ⟨k - 1, by omega⟩
      rw [tarnlaw11_Near.l1, if_pos cl, if_pos (by omega), if_pos (by omega), if_pos (by omega), succ_wrap _ (by omega)]
      exact hk' k (by omega)
    · obtain ⟨r, hr, hk'⟩ := near_j3 a0 a1 a2 L3 L4 e b c m h he hb hc hm (by omega)
      refine ⟨r, hr, fun k hk => ?_⟩
      obtain ⟨k, rfl⟩ : ∃ q, k = q + 1 := ⟨k - 1, by omega⟩
      rw [tarnlaw11_Near.l1, if_neg cl]
      exact hk' k (by omega)
theorem near_j1 (a0 a1 a2 : Int) (L3 L4 : List Int) (e b c : Int) (m : List Int) (he : In e) (hb : In b) (hc : In c) (hm : m.length ≤ 4) :
    ∃ r, Good r ∧ ∀ k, 26 ≤ k → tarnlaw11_Near.j1 k 5 a0 a1 a2 L3 L4 e b c m = some r := by
  obtain ⟨r, hr, hk'⟩ := near_l1 a0 a1 a2 L3 L4 e b c m he hb hc hm 4 0 [] (by omega) rfl
  refine ⟨r, hr, fun k hk => ?_⟩
  obtain ⟨k, rfl⟩ : ∃ q, k = q + 1 := ⟨k - 1, by omega⟩
  rw [tarnlaw11_Near.j1]
  exact hk' k (by omega)
theorem near_l0 (a0 a1 a2 : Int) (L3 L4 : List Int) (e b c : Int) (he : In e) (hb : In b) (hc : In c) : ∀ (j i : Nat) (m : List Int), i + j = 4 → m.length = i →
    ∃ r, Good r ∧ ∀ k, 27 + j ≤ k → tarnlaw11_Near.l0 k 5 (i : Int) a0 a1 a2 L3 L4 e b c m = some r := by
  intro j
  induction j with
  | zero =>
    intro i m hi hm
    obtain ⟨r, hr, hk'⟩ := near_j1 a0 a1 a2 L3 L4 e b c m he hb hc (by omega)
    refine ⟨r, hr, fun k hk => ?_⟩
    obtain ⟨k, rfl⟩ : ∃ q, k = q + 1 := ⟨k - 1, by omega⟩
    rw [tarnlaw11_Near.l0, if_neg (show ¬ (i : Int) < 4 by omega), ite_self]
    exact hk' k (by omega)
  | succ j ih =>
    intro i m hi hm
    by_cases cl : (i : Int) < (L3.length : Int)
    · obtain ⟨r, hr, hk'⟩ := ih (i + 1) (m ++ [Go.bits .and .i64 (rd L3 (i : Int)) 7]) (by omega) (by simp; omega)
      refine ⟨r, hr, fun k hk => ?_⟩
      obtain ⟨k, rfl⟩ : ∃ q, k = q + 1 := ⟨k - 1, by omega⟩
      rw [tarnlaw11_Near.l0, if_pos cl, if_pos (by omega), if_pos (by omega), if_pos (by omega), succ_wrap _ (by omega)]
      exact hk' k (by omega)
    · obtain ⟨r, hr, hk'⟩ := near_j1 a0 a1 a2 L3 L4 e b c m he hb hc (by omega)
      refine ⟨r, hr, fun k hk => ?_⟩
      obtain ⟨k, rfl⟩ : ∃ q, k = q + 1 := ⟨k - 1, by omega⟩
      rw [tarnlaw11_Near.l0, if_neg cl]
      exact hk' k (by omega)
theorem near_f5 (a0 a1 a2 : Int) (L3 L4 : List Int) : ∃ r, Good r ∧ ∀ k, 40 ≤ k → tarnlaw11_Near.f k a0 a1 a2 L3 L4 5 = some r := by
  have h1 : In (Go.bits .and .i64 a0 31) := by rw [and_31]; unfold In; omega
  obtain ⟨r, hr, hk'⟩ := near_l0 a0 a1 a2 L3 L4 (Go.bits .and .i64 a0 31) (wrap64 (5 + (Go.bits .and .i64 a1 1))) (wrap64 ((Go.bits .and .i64 a2 31) + 1)) h1 (in_wrap _) (in_wrap _) 4 0 [] (by omega) rfl
  exact ⟨r, hr, fun k hk => hk' k (by omega)⟩
end Go.Proofs.Ythldophikcgkcaa.X
