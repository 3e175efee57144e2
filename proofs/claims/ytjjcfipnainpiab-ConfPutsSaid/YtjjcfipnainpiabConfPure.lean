/- What conf's and tarnref11's words on lists of nodes compute, told by plain words; a configuration near what may be. -/
import Derived.Test.YtjjcfipnainpiabPPutsx2
import Derived.Test.YtjjcfipnainpiabNum
namespace Go.Proofs.Ytjjcfipnainpiab.X
open Go.RowKit Go.Proofs.Ytjjcfipnainpiab.PPuts Go.Proofs.YtjjcfipnainpiabW.PrintWords Go.Proofs.YtjjcfipnainpiabW.PrintLast Go.Proofs.YtjjcfipnainpiabW.PrintMore

def In (x : Int) : Prop := -9223372036854775808 ≤ x ∧ x ≤ 9223372036854775807
theorem succ_wrap (n : Nat) (h : n ≤ 1000000) : wrap64 ((n : Int) + 1) = ((n + 1 : Nat) : Int) := by rw [wrap_id (by omega) (by omega)]; omega
theorem len_snoc (p : List Int) (x : Int) : (p ++ [x]).length = p.length + 1 := by simp
theorem app_cons (p s : List Int) (x : Int) : p ++ x :: s = (p ++ [x]) ++ s := by simp
theorem rd_mid (p s : List Int) (x : Int) : rd (p ++ x :: s) (p.length : Int) = x := by
  unfold rd
  rw [Int.toNat_natCast, List.getD_eq_getElem?_getD, List.getElem?_append_right (Nat.le_refl _)]
  simp
theorem take_mid (p s : List Int) : (p ++ s).take ((p.length : Int)).toNat = p := by rw [Int.toNat_natCast, List.take_left]
/-- Is a number in a list? -/
def hasB (n : Int) : List Int → Bool
  | [] => false
  | x :: s => (x == n) || hasB n s
theorem hasB_iff (n : Int) (l : List Int) : hasB n l = true ↔ n ∈ l := by
  induction l with
  | nil => simp [hasB]
  | cons x s ih =>
    constructor
    · intro h
      simp only [hasB, Bool.or_eq_true, beq_iff_eq] at h
      rcases h with h | h
      · rw [h]; exact List.mem_cons_self
      · exact List.mem_cons_of_mem _ (ih.1 h)
    · intro h
      rcases List.mem_cons.1 h with h | h
      · rw [hasB, h]; simp
      · rw [hasB, ih.2 h]; simp
theorem has_l0 (n : Int) : ∀ (s p : List Int), (p ++ s).length ≤ 1000 → ∀ k, s.length + 1 ≤ k → tarnref11_has.l0 k (p ++ s) n (p.length : Int) = some (hasB n s) := by
  intro s
  induction s with
  | nil =>
    intro p hp k hk
    obtain ⟨k, rfl⟩ : ∃ q, k = q + 1 := ⟨k - 1, by simp at hk; omega⟩
    rw [tarnref11_has.l0, if_neg (by simp)]
    rfl
  | cons x s ih =>
    intro p hp k hk
    obtain ⟨k, rfl⟩ : ∃ q, k = q + 1 := ⟨k - 1, by simp at hk; omega⟩
    have hp' : p.length + (s.length + 1) ≤ 1000 := by simpa using hp
    rw [tarnref11_has.l0, if_pos (by simp; omega), if_pos (by omega), rd_mid]
    by_cases c : x = n
    · rw [if_pos c]; simp [hasB, c]
    · rw [if_neg c, succ_wrap _ (by omega), app_cons]
      have := ih (p ++ [x]) (by simp; omega) k (by simp at hk; omega)
      rw [len_snoc] at this
      rw [this]
      simp [hasB, c]
theorem has_f (n : Int) (l : List Int) (hl : l.length ≤ 1000) (k : Nat) (hk : l.length + 1 ≤ k) : tarnref11_has.f k l n = some (hasB n l) := has_l0 n l [] (by simpa using hl) k hk
/-- Are these nodes, each once? -/
def goB : List Int → List Int → Bool
  | _, [] => true
  | p, x :: s => decide (0 ≤ x) && (decide (x ≤ 4) && (!hasB x p && goB (p ++ [x]) s))
def nodesB (l : List Int) (least : Int) : Bool := goB [] l && (decide ((l.length : Int) ≥ least) && decide ((l.length : Int) ≤ 3))
theorem ref_nodes_l0 (least : Int) : ∀ (s p : List Int), (p ++ s).length ≤ 1000 → ∀ k, (p ++ s).length + 5 + s.length ≤ k →
    tarnref11_nodes.l0 k (p ++ s) least (p.length : Int) = some (goB p s && (decide (((p ++ s).length : Int) ≥ least) && decide (((p ++ s).length : Int) ≤ 3))) := by
  intro s
  induction s with
  | nil =>
    intro p hp k hk
    obtain ⟨k, rfl⟩ : ∃ q, k = q + 1 := ⟨k - 1, by omega⟩
    rw [tarnref11_nodes.l0, if_neg (by simp)]
    by_cases c : ((p ++ []).length : Int) ≥ least
    · rw [if_pos c, decide_eq_true c]; simp [goB]
    · rw [if_neg c, decide_eq_false c]; simp [goB]
  | cons x s ih =>
    intro p hp k hk
    obtain ⟨k, rfl⟩ : ∃ q, k = q + 1 := ⟨k - 1, by omega⟩
    have hp' : p.length + (s.length + 1) ≤ 1000 := by simpa using hp
    have hk' : p.length + (s.length + 1) + 5 + (s.length + 1) ≤ k + 1 := by simpa using hk
    rw [tarnref11_nodes.l0, if_pos (by simp; omega), if_pos (by omega), rd_mid]
    by_cases c1 : x < 0
    · rw [if_pos c1]; simp [goB, show ¬ 0 ≤ x by omega]
    rw [if_neg c1]
    by_cases c2 : x > 4
    · rw [if_pos c2]; simp [goB, show ¬ x ≤ 4 by omega]
    rw [if_neg c2, if_pos (by simp; omega), take_mid, has_f x p (by omega) k (by omega), Option.bind_some]
    by_cases c3 : hasB x p = true
    · rw [if_pos c3]; simp [goB, c3]
    · rw [if_neg c3, succ_wrap _ (by omega), app_cons]
      have := ih (p ++ [x]) (by simp; omega) k (by simp; omega)
      rw [len_snoc] at this
      rw [this]
      simp [goB, c3, show 0 ≤ x by omega, show x ≤ 4 by omega]
theorem ref_nodes_f (l : List Int) (least : Int) (hl : l.length ≤ 1000) (k : Nat) (hk : 2 * l.length + 5 ≤ k) : tarnref11_nodes.f k l least = some (nodesB l least) := ref_nodes_l0 least l [] (by simpa using hl) k (by simp; omega)
def listsB (m c : List Int) : Bool := nodesB m 0 && nodesB c 1
theorem ref_lists_f (m c : List Int) (hm : m.length ≤ 1000) (hc : c.length ≤ 1000) (k : Nat) (h1 : 2 * m.length + 5 ≤ k) (h2 : 2 * c.length + 5 ≤ k) : tarnref11_Lists.f k m c = some (listsB m c) := by
  unfold tarnref11_Lists.f listsB
  rw [ref_nodes_f m 0 hm k h1, Option.bind_some, ref_nodes_f c 1 hc k h2, Option.bind_some]
  cases nodesB m 0 <;> rfl
theorem goB_mem : ∀ (s p : List Int), goB p s = true → ∀ x ∈ s, 0 ≤ x ∧ x ≤ 4 ∧ x ∉ p := by
  intro s
  induction s with
  | nil => intro p _ x hx; cases hx
  | cons y s ih =>
    intro p h x hx
    simp only [goB, Bool.and_eq_true, decide_eq_true_eq, Bool.not_eq_true'] at h
    obtain ⟨h1, h2, h3, h4⟩ := h
    rcases List.mem_cons.1 hx with rfl | hx
    · exact ⟨h1, h2, fun hm => by rw [(hasB_iff _ _).2 hm] at h3; cases h3⟩
    · obtain ⟨a, b, c⟩ := ih (p ++ [y]) h4 x hx
      exact ⟨a, b, fun hm => c (by simp [hm])⟩
theorem goB_nodup : ∀ (s p : List Int), goB p s = true → s.Nodup := by
  intro s
  induction s with
  | nil => intro p _; exact List.nodup_nil
  | cons y s ih =>
    intro p h
    have h' := h
    simp only [goB, Bool.and_eq_true, decide_eq_true_eq, Bool.not_eq_true'] at h
    obtain ⟨h1, h2, h3, h4⟩ := h
    exact List.nodup_cons.2 ⟨fun hm => (goB_mem s (p ++ [y]) h4 y hm).2.2 (by simp), ih (p ++ [y]) h4⟩
/-- What each list of a configuration that may be is. -/
theorem nodesB_iff (l : List Int) (least : Int) (h : nodesB l least = true) : (∀ x ∈ l, 0 ≤ x ∧ x ≤ 4) ∧ l.Nodup ∧ (l.length : Int) ≥ least ∧ l.length ≤ 3 := by
  unfold nodesB at h
  simp only [Bool.and_eq_true, decide_eq_true_eq] at h
  exact ⟨fun x hx => ⟨(goB_mem l [] h.1 x hx).1, (goB_mem l [] h.1 x hx).2.1⟩, goB_nodup l [] h.1, h.2.1, by omega⟩
end Go.Proofs.Ytjjcfipnainpiab.X
