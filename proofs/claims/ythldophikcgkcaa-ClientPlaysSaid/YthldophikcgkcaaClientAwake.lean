/- client: what the laws hold of a history; tarnlaw34.awake. -/
import Derived.Test.YthldophikcgkcaaHistFind
import Derived.Test.YthldophikcgkcaaHistSort
namespace Go.Proofs.Ythldophikcgkcaa.Y
set_option linter.unusedVariables false
set_option linter.unusedSimpArgs false
open Go.RowKit Go.Shelf Go.Proofs Go.Maps Go.IntWalk Go.Proofs.YthldophikcgkcaaW.PrintWords Go.Proofs.YthldophikcgkcaaW.PrintLast Go.Proofs.YthldophikcgkcaaW.PrintMore Go.Proofs.Ythldophikcgkcaa.X

/-- A history that the call has made. -/
structure CW (w W : World) (F : Nat → Prop) (gh bm : Nat) (v : Value) (evs : List EvV) (op : Int → Prop) (next : Int) : Prop where
  hi : HI W F gh bm v evs op next
  b : Below w.heap.size w W
  f : ∀ k, F k → w.heap.size ≤ k
theorem CW.below {w W W' : World} {F : Nat → Prop} {gh bm : Nat} {v : Value} {evs : List EvV} {op : Int → Prop} {next : Int} (h : CW w W F gh bm v evs op next) (hb : Below W.heap.size W W') : CW w W' F gh bm v evs op next := ⟨h.hi.below hb, below_step h.b hb, h.f⟩
theorem CW.step {w W W' : World} {F F' : Nat → Prop} {gh bm : Nat} {v v' : Value} {evs evs' : List EvV} {op op' : Int → Prop} {next next' : Int} (h : CW w W F gh bm v evs op next) (h1 : HI W' F' gh bm v' evs' op' next') (h2 : ∀ k, F' k → F k ∨ W.heap.size ≤ k) (h3 : KF W W' F) : CW w W' F' gh bm v' evs' op' next' :=
  ⟨h1, ⟨h3.os.trans h.b.os, h3.tape.trans h.b.tape, h3.output.trans h.b.output, Nat.le_trans h.b.size h3.size, fun k hk => (h3.block k (Nat.lt_of_lt_of_le hk h.b.size) (fun hf => by have := h.f k hf; omega)).trans (h.b.block k hk)⟩, fun k hk => (h2 k hk).elim (h.f k) (fun hh => Nat.le_trans h.b.size hh)⟩
theorem CW.start {w W : World} {F : Nat → Prop} {gh bm : Nat} (h : HI W F gh bm (.slice none 0 0) [] (fun _ => False) 0) (h2 : ∀ k, F k → w.heap.size ≤ k) (h3 : Below w.heap.size w W) : CW w W F gh bm (.slice none 0 0) [] (fun _ => False) 0 := ⟨h, h3, h2⟩
/-- The length of a row. -/
theorem own_slice_any {w : World} {B : Nat} {e : TypeId} {k n : Nat} {v : Value} {xs : List Value} (h : w.ownsRow B e k v n xs) : ∃ A c, v = .slice A n c := by
  rcases h.2 with ⟨rfl, h0⟩ | ⟨g, cap, cur, rfl, _⟩
  · exact ⟨none, 0, by rw [h0]⟩
  · exact ⟨_, _, rfl⟩
set_option maxHeartbeats 4000000 in
set_option maxRecDepth 100000 in
theorem awake_n (w : World) : Calls Try.prog 30 #[] w fun e w' => e = .returned (.bool true) ∧ Below w.heap.size w w' := by
  have hu68 := Try.underlying68
  go_enter Try.func30, Try.ntmps30
  go_wp2_with fail
  refine (hnew_n _).mono ?_
  rintro e1 W1 ⟨F1, gh, bm, rfl, h1, h2, h3⟩
  have C1 := Lib.hid (CW.start h1 h2 h3)
  clear h1 h2 h3
  go_wp2_with fail
  refine (ask_n _ _ _ _ _ _ _ _ 5 ⟨3, 0, 0, ⟨#[]⟩, false⟩ C1.out.hi (by decide) (by decide) (by decide) (fun k h => h.elim)).mono ?_
  rintro e2 W2 ⟨F2, v2, rfl, h1, h2, h3⟩
  have C2 := Lib.hid (C1.out.step h1 h2 h3)
  clear h1 h2 h3 C1
  go_wp2_with fail
  refine (tell_yes _ _ _ _ _ _ _ _ 5 1 0 ⟨#[]⟩ C2.out.hi (by decide) ⟨by decide, by decide⟩ (Or.inr rfl)).mono ?_
  rintro e3 W3 ⟨F3, v3, rfl, h1, h2, h3⟩
  have C3 := Lib.hid (C2.out.step h1 h2 h3)
  clear h1 h2 h3 C2
  go_wp2_with fail
  have HF : Calls Try.prog 29 #[.pointer (some ⟨gh, 0, none⟩), .int .i64 1] W3 fun e w' => e = .returned (.tuple #[.agg #[.bool true, .int .i64 1, .int .i64 5, .int .i64 0, .int .i64 0, .int .i64 0, .string ⟨#[]⟩, .bool false, .int .i64 0, .string ⟨#[]⟩], .bool true]) ∧ Below W3.heap.size W3 w' := find_n _ _ _ _ _ _ _ _ 1 C3.out.hi (by decide) (by decide)
  refine HF.mono ?_
  rintro e4 W4 ⟨rfl, hb⟩
  have C4 := Lib.hid (C3.out.below hb)
  clear hb C3 HF
  go_wp2_with fail
  have C5 := Lib.hid (C4.out.below (below_alloc (Below.refl _ _) (.cells #[.bool true, .int .i64 1, .int .i64 5, .int .i64 0, .int .i64 0, .int .i64 0, .string ⟨#[]⟩, .bool false, .int .i64 0, .string ⟨#[]⟩] 68)))
  refine (hall_n _ _ _ _ _ _ _ _ C5.out.hi (by decide)).mono ?_
  rintro e6 W6 ⟨A6, c6, rfl, ho, hb⟩
  have C6 := Lib.hid (C5.out.below hb)
  clear hb ho C5 C4
  go_wp2_with fail
  refine (open_n _ _ _ _ _ _ _ _ C6.out.hi (by decide) (fun x hx => by have := hx.2; rcases hx.1 with h | h; exact h.elim; exact absurd h hx.2)).mono ?_
  rintro e7 W7 ⟨v7, L7, rfl, hb, ho, hp, hm⟩
  have hL : L7 = [] := by
    rcases L7 with _ | ⟨x, L⟩
    · rfl
    · have := (hm x).1 (by simp)
      rcases this.1 with h | h
      · exact h.elim
      · exact absurd h this.2
  subst hL
  obtain ⟨A7, c7, rfl⟩ := own_slice_any ho
  have C7 := Lib.hid (C6.out.below hb)
  clear hb ho hp hm C6
  go_wp2_with fail
  go_ret
  exact ⟨rfl, C7.out.b⟩
end Go.Proofs.Ythldophikcgkcaa.Y
