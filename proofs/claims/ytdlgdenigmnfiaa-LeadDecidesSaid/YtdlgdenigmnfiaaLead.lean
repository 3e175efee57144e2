/- lead: what a leader knows of three others: contracts of New, may, Match, Next, Yes, No. -/
import Derived.Test.YtdlgdenigmnfiaaProg
import Derived.Test.YtdlgdenigmnfiaaXGen
import Derived.Test.YtdlgdenigmnfiaaWWords
import Derived.Test.YtdlgdenigmnfiaaWMore
import Derived.Test.YtdlgdenigmnfiaaAid
import Derived.LoopTactic
import Derived.Lib.Hide
import Derived.Deep.RegionHeld3
namespace Go.Proofs.Ytdlgdenigmnfiaa.Y
set_option linter.unusedVariables false
set_option linter.unusedSimpArgs false
open Go.RowKit Go.Proofs Go.IntWalk Go.Proofs.YtdlgdenigmnfiaaW.PrintWords Go.Proofs.YtdlgdenigmnfiaaW.PrintLast Go.Proofs.YtdlgdenigmnfiaaW.PrintMore Go.Proofs.Ytdlgdenigmnfiaa.X

def ldC (m n : Fin 3 → Int) : Array Value := #[.int .i64 (m 0), .int .i64 (m 1), .int .i64 (m 2), .int .i64 (n 0), .int .i64 (n 1), .int .i64 (n 2)]
def up3 (f : Fin 3 → Int) (k : Fin 3) (v : Int) : Fin 3 → Int := fun i => if i = k then v else f i
theorem up3_eq (f : Fin 3 → Int) (k : Fin 3) (v : Int) : up3 f k v k = v := by unfold up3; rw [if_pos rfl]
theorem up3_ne (f : Fin 3 → Int) (k : Fin 3) (v : Int) (i : Fin 3) (h : i ≠ k) : up3 f k v i = f i := by unfold up3; rw [if_neg h]
/-- The leader's block. -/
def LB (w : World) (g : Nat) (m n : Fin 3 → Int) : Prop := w.heap[g]? = some (.cells (ldC m n) 80 (0, 0))
theorem LB.m {w : World} {g : Nat} {m n : Fin 3 → Int} (h : LB w g m n) (k : Fin 3) : w.cell? ⟨g, k.val, none⟩ = some (.int .i64 (m k)) := by
  simp only [World.cell?, show w.heap[g]? = _ from h]
  match k with
  | 0 => rfl
  | 1 => rfl
  | 2 => rfl
theorem LB.n {w : World} {g : Nat} {m n : Fin 3 → Int} (h : LB w g m n) (k : Fin 3) : w.cell? ⟨g, 3 + k.val, none⟩ = some (.int .i64 (n k)) := by
  simp only [World.cell?, show w.heap[g]? = _ from h]
  match k with
  | 0 => rfl
  | 1 => rfl
  | 2 => rfl
theorem LB.lt {w : World} {g : Nat} {m n : Fin 3 → Int} (h : LB w g m n) : g < w.heap.size := blk_lt h
theorem LB.frz {w : World} {g : Nat} {m n : Fin 3 → Int} (h : LB w g m n) (k : Nat) : w.frozen? ⟨g, k, none⟩ = false := blk_frozen h k
theorem LB.below {w w' : World} {g : Nat} {m n : Fin 3 → Int} (h : LB w g m n) (hb : Below w.heap.size w w') : LB w' g m n := (hb.block _ h.lt).trans h
theorem LB.setm {w : World} {g : Nat} {m n : Fin 3 → Int} (h : LB w g m n) (k : Fin 3) (v : Int) : LB (w.setCell ⟨g, k.val, none⟩ (.int .i64 v)) g (up3 m k v) n := by
  refine blk_put h _ _ ?_
  match k with
  | 0 => rfl
  | 1 => rfl
  | 2 => rfl
theorem LB.setn {w : World} {g : Nat} {m n : Fin 3 → Int} (h : LB w g m n) (k : Fin 3) (v : Int) : LB (w.setCell ⟨g, 3 + k.val, none⟩ (.int .i64 v)) g m (up3 n k v) := by
  refine blk_put h _ _ ?_
  match k with
  | 0 => rfl
  | 1 => rfl
  | 2 => rfl
/-- All blocks but one are as they were. -/
structure KB (w w' : World) (g : Nat) : Prop where
  os : w'.os = w.os
  tape : w'.tape = w.tape
  output : w'.output = w.output
  size : w.heap.size ≤ w'.heap.size
  block : ∀ j, j < w.heap.size → j ≠ g → w'.heap[j]? = w.heap[j]?
theorem KB.of {w w' : World} (hb : Below w.heap.size w w') (g : Nat) : KB w w' g := ⟨hb.os, hb.tape, hb.output, hb.size, fun j hj _ => hb.block j hj⟩
theorem KB.set {w w' : World} {g : Nat} (h : KB w w' g) (i : Nat) (v : Value) : KB w (w'.setCell ⟨g, i, none⟩ v) g :=
  ⟨h.os, h.tape, h.output, by simpa [World.setCell] using h.size, fun j hj hne => (Below.heap_setCell w' ⟨g, i, none⟩ v j hne).trans (h.block j hj hne)⟩
theorem KB.drewN {w w' : World} {g : Nat} (h : KB w w' g) (n : Nat) : KB w (w'.drewN n) g := ⟨h.os, h.tape, h.output, h.size, h.block⟩
theorem KB.below {w w' : World} {g : Nat} (h : KB w w' g) (a : World) (ha : Below a.heap.size a w) (hg : a.heap.size ≤ g) : Below a.heap.size a w' :=
  ⟨h.os.trans ha.os, h.tape.trans ha.tape, h.output.trans ha.output, Nat.le_trans ha.size h.size, fun j hj => (h.block j (Nat.lt_of_lt_of_le hj ha.size) (by omega)).trans (ha.block j hj)⟩
set_option maxHeartbeats 1000000 in
set_option maxRecDepth 100000 in
theorem may_n (g : Nat) (k : Fin 3) (w : World) : Calls Try.prog 32 #[.pointer (some ⟨g, 0, none⟩), .int .i64 (k.val : Int)] w fun e w' => e = .returned (.bool true) ∧ w' = w := by
  have h1 : (0 : Int) ≤ (k.val : Int) := by omega
  have h2 : (k.val : Int) < 3 := by omega
  go_enter Try.func32, Try.ntmps32
  go_wp2
  go_ret
  exact ⟨by first | rfl | simp_all, rfl⟩
set_option maxHeartbeats 1000000 in
set_option maxRecDepth 100000 in
theorem may_out (p : Option Addr) (who : Int) (w : World) (h : ¬ (0 ≤ who ∧ who < 3)) : Calls Try.prog 32 #[.pointer p, .int .i64 who] w fun e w' => e = .returned (.bool false) ∧ w' = w := by
  go_enter Try.func32, Try.ntmps32
  cases p with
  | none => 
    go_wp2
    all_goals (go_ret; exact ⟨by first | rfl | simp_all, rfl⟩)
  | some a =>
    by_cases h1 : (0 : Int) ≤ who
    · have h2 : ¬ (who < 3) := fun x => h ⟨h1, x⟩
      go_wp2
      all_goals (go_ret; exact ⟨by first | rfl | simp_all, rfl⟩)
    · go_wp2
      all_goals (go_ret; exact ⟨by first | rfl | simp_all, rfl⟩)
set_option maxHeartbeats 2000000 in
set_option maxRecDepth 100000 in
theorem match_n (g : Nat) (m n : Fin 3 → Int) (k : Fin 3) (w : World) (h : LB w g m n) : Calls Try.prog 12 #[.pointer (some ⟨g, 0, none⟩), .int .i64 (k.val : Int)] w fun e w' => e = .returned (.int .i64 (m k)) ∧ w' = w := by
  have h1 : (0 : Int) ≤ (k.val : Int) := by omega
  have h2 : (k.val : Int) < 3 := by omega
  have hc := h.m k
  have hm := Lib.hid (may_n g k w)
  clear h
  generalize m k = x at hc ⊢
  go_enter Try.func12, Try.ntmps12
  go_wp2_with fail
  refine hm.out.mono ?_
  rintro e w' ⟨rfl, hw⟩
  subst hw
  go_wp2
  go_ret
  exact ⟨rfl, rfl⟩
set_option maxHeartbeats 2000000 in
set_option maxRecDepth 100000 in
theorem next_n (g : Nat) (m n : Fin 3 → Int) (k : Fin 3) (w : World) (h : LB w g m n) : Calls Try.prog 13 #[.pointer (some ⟨g, 0, none⟩), .int .i64 (k.val : Int)] w fun e w' => e = .returned (.int .i64 (n k)) ∧ w' = w := by
  have h1 : (0 : Int) ≤ (k.val : Int) := by omega
  have h2 : (k.val : Int) < 3 := by omega
  have hc := h.n k
  have hm := Lib.hid (may_n g k w)
  clear h
  generalize n k = x at hc ⊢
  go_enter Try.func13, Try.ntmps13
  go_wp2_with fail
  refine hm.out.mono ?_
  rintro e w' ⟨rfl, hw⟩
  subst hw
  go_wp2
  go_ret
  exact ⟨rfl, rfl⟩
set_option maxHeartbeats 2000000 in
set_option maxRecDepth 100000 in
theorem match_out (p : Option Addr) (who : Int) (w : World) (h : ¬ (0 ≤ who ∧ who < 3)) : Calls Try.prog 12 #[.pointer p, .int .i64 who] w fun e w' => e = .returned (.int .i64 0) ∧ w' = w := by
  have hm := Lib.hid (may_out p who w h)
  clear h
  go_enter Try.func12, Try.ntmps12
  go_wp2_with fail
  refine hm.out.mono ?_
  rintro e w' ⟨rfl, hw⟩
  subst hw
  go_wp2
  go_ret
  exact ⟨rfl, rfl⟩
set_option maxHeartbeats 2000000 in
set_option maxRecDepth 100000 in
theorem next_out (p : Option Addr) (who : Int) (w : World) (h : ¬ (0 ≤ who ∧ who < 3)) : Calls Try.prog 13 #[.pointer p, .int .i64 who] w fun e w' => e = .returned (.int .i64 0) ∧ w' = w := by
  have hm := Lib.hid (may_out p who w h)
  clear h
  go_enter Try.func13, Try.ntmps13
  go_wp2_with fail
  refine hm.out.mono ?_
  rintro e w' ⟨rfl, hw⟩
  subst hw
  go_wp2
  go_ret
  exact ⟨rfl, rfl⟩
set_option maxHeartbeats 2000000 in
set_option maxRecDepth 100000 in
theorem no_out (p : Option Addr) (who : Int) (w : World) (h : ¬ (0 ≤ who ∧ who < 3)) : Calls Try.prog 10 #[.pointer p, .int .i64 who] w fun e w' => e = .returned (.tuple #[]) ∧ w' = w := by
  have hm := Lib.hid (may_out p who w h)
  clear h
  go_enter Try.func10, Try.ntmps10
  go_wp2_with fail
  refine hm.out.mono ?_
  rintro e w' ⟨rfl, hw⟩
  subst hw
  go_wp2
  go_end0
  exact ⟨rfl, rfl⟩
set_option maxHeartbeats 2000000 in
set_option maxRecDepth 100000 in
theorem yes_out (p : Option Addr) (who a : Int) (w : World) (h : ¬ (0 ≤ who ∧ who < 3)) : Calls Try.prog 11 #[.pointer p, .int .i64 who, .int .i64 a] w fun e w' => e = .returned (.tuple #[]) ∧ w' = w := by
  have hm := Lib.hid (may_out p who w h)
  clear h
  go_enter Try.func11, Try.ntmps11
  go_wp2_with fail
  refine hm.out.mono ?_
  rintro e w' ⟨rfl, hw⟩
  subst hw
  go_wp2
  go_end0
  exact ⟨rfl, rfl⟩
set_option maxHeartbeats 2000000 in
set_option maxRecDepth 100000 in
theorem no_n (g : Nat) (m n : Fin 3 → Int) (k : Fin 3) (w : World) (h : LB w g m n) (b1 : 0 ≤ m k) (b2 : m k ≤ 1000) (b3 : 0 ≤ n k) (b4 : n k ≤ 1000) : Calls Try.prog 10 #[.pointer (some ⟨g, 0, none⟩), .int .i64 (k.val : Int)] w fun e w' => e = .returned (.tuple #[]) ∧ LB w' g m (up3 n k (max (n k - 1) (m k + 1))) ∧ KB w w' g := by
  have h1 : (0 : Int) ≤ (k.val : Int) := by omega
  have h2 : (k.val : Int) < 3 := by omega
  have hcm := h.m k
  have hcn := h.n k
  have hfr := h.frz (3 + k.val)
  have hm := Lib.hid (may_n g k w)
  have H := Lib.hid (And.intro h (Below.refl w.heap.size w))
  clear h
  have s1 : wrap64 (n k - 1) = n k - 1 := wrap64_in _ ⟨by omega, by omega⟩
  have s2 : wrap64 (m k + 1) = m k + 1 := wrap64_in _ ⟨by omega, by omega⟩
  generalize m k = x at hcm s1 s2 b1 b2 ⊢
  generalize n k = y at hcn s1 s2 b3 b4 ⊢
  go_enter Try.func10, Try.ntmps10
  go_wp2_with fail
  refine hm.out.mono ?_
  rintro e w' ⟨rfl, hw⟩
  subst hw
  go_wp2
  go_region
  all_goals go_wp2
  all_goals go_end0
  · skip
    have e1 : max (y - 1) (x + 1) = x + 1 := by omega
    rw [e1]
    exact ⟨rfl, (H.out.1.setn k (x + 1)).below (below_drew1 (Below.refl _ _)), ((KB.of H.out.2 g).set _ _).drewN 1⟩
  · skip
    have e1 : max (y - 1) (x + 1) = y - 1 := by omega
    rw [e1]
    exact ⟨rfl, (H.out.1.setn k (y - 1)).below (below_drew1 (Below.refl _ _)), ((KB.of H.out.2 g).set _ _).drewN 1⟩
/-- What a yes makes of what is known. -/
def yesM (m : Fin 3 → Int) (k : Fin 3) (a : Int) : Fin 3 → Int := if a > m k then up3 m k a else m
def yesN (m n : Fin 3 → Int) (k : Fin 3) (a : Int) : Fin 3 → Int := if a > m k then up3 n k (max (n k) (a + 1)) else n
set_option maxHeartbeats 2000000 in
set_option maxRecDepth 100000 in
theorem yes_n (g : Nat) (m n : Fin 3 → Int) (k : Fin 3) (a : Int) (w : World) (h : LB w g m n) (b1 : -1000 ≤ a) (b2 : a ≤ 1000) (b3 : 0 ≤ n k) (b4 : n k ≤ 1000) : Calls Try.prog 11 #[.pointer (some ⟨g, 0, none⟩), .int .i64 (k.val : Int), .int .i64 a] w fun e w' => e = .returned (.tuple #[]) ∧ LB w' g (yesM m k a) (yesN m n k a) ∧ KB w w' g := by
  have h1 : (0 : Int) ≤ (k.val : Int) := by omega
  have h2 : (k.val : Int) < 3 := by omega
  have hcm := h.m k
  have hfr := h.frz k.val
  have hm := Lib.hid (may_n g k w)
  have H := Lib.hid (And.intro h (Below.refl w.heap.size w))
  have s1 : wrap64 (a + 1) = a + 1 := wrap64_in _ ⟨by omega, by omega⟩
  by_cases c : a > m k
  · have hy1 : yesM m k a = up3 m k a := by unfold yesM; rw [if_pos c]
    have hy2 : yesN m n k a = up3 n k (max (n k) (a + 1)) := by unfold yesN; rw [if_pos c]
    rw [hy1, hy2]
    have hs := h.setm k a
    have hcn := hs.n k
    have hfn := hs.frz (3 + k.val)
    have HS := Lib.hid hs
    clear hs h hy1 hy2
    generalize m k = x at hcm c
    generalize n k = y at hcn b3 b4 ⊢
    go_enter Try.func11, Try.ntmps11
    go_wp2_with fail
    refine hm.out.mono ?_
    rintro e w' ⟨rfl, hw⟩
    subst hw
    go_wp2
    go_region
    all_goals go_wp2
    all_goals go_end0
    · skip
      have e1 : max y (a + 1) = a + 1 := by omega
      rw [e1]
      exact ⟨rfl, (HS.out.setn k (a + 1)).below (below_drew1 (Below.refl _ _)), (((KB.of H.out.2 g).set _ _).set _ _).drewN 1⟩
    · skip
      have e1 : max y (a + 1) = y := by omega
      rw [e1]
      exact ⟨rfl, (HS.out.setn k y).below (below_drew1 (Below.refl _ _)), (((KB.of H.out.2 g).set _ _).set _ _).drewN 1⟩
  · have hy1 : yesM m k a = m := by unfold yesM; rw [if_neg c]
    have hy2 : yesN m n k a = n := by unfold yesN; rw [if_neg c]
    rw [hy1, hy2]
    clear h hy1 hy2
    generalize m k = x at hcm c
    go_enter Try.func11, Try.ntmps11
    go_wp2_with fail
    refine hm.out.mono ?_
    rintro e w' ⟨rfl, hw⟩
    subst hw
    go_wp2
    go_end0
    exact ⟨rfl, H.out.1, KB.of H.out.2 g⟩
set_option maxHeartbeats 2000000 in
set_option maxRecDepth 100000 in
theorem may_nil (who : Int) (w : World) : Calls Try.prog 32 #[.pointer none, .int .i64 who] w fun e w' => e = .returned (.bool false) ∧ w' = w := by
  go_enter Try.func32, Try.ntmps32
  go_wp2
  all_goals (go_ret; exact ⟨by first | rfl | simp_all, rfl⟩)
set_option maxHeartbeats 2000000 in
set_option maxRecDepth 100000 in
theorem nils (who a : Int) (w : World) : Calls Try.prog 10 #[.pointer none, .int .i64 who] w (fun e w' => e = .returned (.tuple #[]) ∧ w' = w) ∧
    Calls Try.prog 11 #[.pointer none, .int .i64 who, .int .i64 a] w (fun e w' => e = .returned (.tuple #[]) ∧ w' = w) ∧
    Calls Try.prog 13 #[.pointer none, .int .i64 who] w (fun e w' => e = .returned (.int .i64 0) ∧ w' = w) ∧
    Calls Try.prog 12 #[.pointer none, .int .i64 who] w (fun e w' => e = .returned (.int .i64 0) ∧ w' = w) := by
  have hm := Lib.hid (may_nil who w)
  refine ⟨?_, ?_, ?_, ?_⟩
  · go_enter Try.func10, Try.ntmps10
    go_wp2_with fail
    refine hm.out.mono ?_
    rintro e w' ⟨rfl, hw⟩
    subst hw
    go_wp2
    go_end0
    exact ⟨rfl, rfl⟩
  · go_enter Try.func11, Try.ntmps11
    go_wp2_with fail
    refine hm.out.mono ?_
    rintro e w' ⟨rfl, hw⟩
    subst hw
    go_wp2
    go_end0
    exact ⟨rfl, rfl⟩
  · go_enter Try.func13, Try.ntmps13
    go_wp2_with fail
    refine hm.out.mono ?_
    rintro e w' ⟨rfl, hw⟩
    subst hw
    go_wp2
    go_ret
    exact ⟨rfl, rfl⟩
  · go_enter Try.func12, Try.ntmps12
    go_wp2_with fail
    refine hm.out.mono ?_
    rintro e w' ⟨rfl, hw⟩
    subst hw
    go_wp2
    go_ret
    exact ⟨rfl, rfl⟩
/-- A new leader: nothing is known, all are told from behind the last place. -/
def part3 (v : Int) (k : Nat) : Fin 3 → Int := fun i => if i.val < k then v else 0
theorem part3_next (v : Int) (k : Fin 3) : up3 (part3 v k.val) k v = part3 v (k.val + 1) := by
  funext i
  unfold up3 part3
  by_cases c : i = k
  · subst c; rw [if_pos rfl, if_pos (by omega)]
  · rw [if_neg c]
    have : i.val ≠ k.val := fun e => c (Fin.ext e)
    by_cases c2 : i.val < k.val
    · rw [if_pos c2, if_pos (by omega)]
    · rw [if_neg c2, if_neg (by omega)]
set_option maxHeartbeats 2000000 in
set_option maxRecDepth 100000 in
theorem new_n (last : Int) (w : World) (b1 : 0 ≤ last) (b2 : last ≤ 1000) : Calls Try.prog 9 #[.int .i64 last] w fun e w' => ∃ g, e = .returned (.pointer (some ⟨g, 0, none⟩)) ∧ w.heap.size ≤ g ∧ LB w' g (fun _ => 0) (fun _ => last + 1) ∧ Below w.heap.size w w' := by
  have s1 : wrap64 (last + 1) = last + 1 := wrap64_in _ ⟨by omega, by omega⟩
  have s0 : ¬ (last < 0) := by omega
  have L0 : LB (w.alloc (.cells (ldC (fun _ => 0) (fun _ => 0)) 80)) w.heap.size (fun _ => 0) (fun _ => 0) := heap_alloc_new w _
  have H := Lib.hid (And.intro L0 (below_alloc (Below.refl w.heap.size w) (.cells (ldC (fun _ => 0) (fun _ => 0)) 80)))
  clear L0
  go_enter Try.func9, Try.ntmps9
  go_wp2
  go_loopw [7] (fun v wr => ∃ k : Nat, k ≤ 3 ∧ v = .int .i64 (k : Int) ∧ LB wr w.heap.size (fun _ => 0) (part3 (last + 1) k) ∧ Below w.heap.size w wr) (fun v => fun _ => 3 - (intOf v).toNat)
  case atStart => exact ⟨0, by omega, rfl, H.out.1, H.out.2⟩
  case round =>
    obtain ⟨k, hk, rfl, hL, hB⟩ := hrel
    clear H
    by_cases c3 : (k : Int) < 3
    · obtain ⟨kf, rfl⟩ : ∃ kf : Fin 3, kf.val = k := ⟨⟨k, by omega⟩, rfl⟩
      have hcn := hL.n kf
      have hfr := hL.frz (3 + kf.val)
      have hs := hL.setn kf (last + 1)
      rw [part3_next] at hs
      have HS := Lib.hid (And.intro hs (below_set (g := w.heap.size) (j := 3 + kf.val) (v := .int .i64 (last + 1)) hB (Nat.le_refl _)))
      clear hs hL hB
      go_wp2
      go_roundw
      case rel => exact ⟨kf.val + 1, by omega, by go_num, HS.out.1, HS.out.2⟩
      case measure => simp [intOf]; omega
    · obtain rfl : k = 3 := by omega
      have HL := Lib.hid (And.intro hL hB)
      clear hL hB
      go_wp2
      go_ret
      refine ⟨_, rfl, Nat.le_refl _, ?_, HL.out.2⟩
      have e3 : part3 (last + 1) 3 = fun _ => last + 1 := by funext i; unfold part3; rw [if_pos (by omega)]
      have := HL.out.1
      rw [e3] at this
      exact this
end Go.Proofs.Ytdlgdenigmnfiaa.Y
