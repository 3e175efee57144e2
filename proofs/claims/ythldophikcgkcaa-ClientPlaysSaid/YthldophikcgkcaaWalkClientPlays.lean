/- tarnlaw34.ClientPlays: the law's walk, as the print asks for it. -/
import Derived.Test.YthldophikcgkcaaClientPlays
namespace Go.Proofs.Ythldophikcgkcaa.X
open Go.RowKit Go.Proofs.YthldophikcgkcaaW.PrintWords Go.Proofs.Ythldophikcgkcaa.PPlays
open Classical in
/-- The walk wants that the numbers that are told are such as an int holds: that is what the statement's own inputs are. -/
noncomputable def tarnlaw34_ClientPlays.f (l0 : List S65) : Option Bool := if ∀ y ∈ l0, Y.InI y.f3.f0 then some true else none
theorem tarnlaw34_ClientPlays.calls (A0 : Option Addr) (c0 : Nat) (l0 : List S65) (r : Bool) (w : World) (hr0 : Kd.C k65 w A0 l0.length l0) (hc0 : l0.length ≤ c0) (h : tarnlaw34_ClientPlays.f l0 = some r) :
    Calls Try.prog 7 #[.slice A0 l0.length c0] w fun e w' => e = .returned (.bool r) ∧ Below w.heap.size w w' := by
  unfold tarnlaw34_ClientPlays.f at h
  by_cases hw : ∀ y ∈ l0, Y.InI y.f3.f0
  · rw [if_pos hw] at h
    obtain rfl := Option.some.inj h
    exact Y.walk_plays A0 c0 l0 w hr0 hc0 hw
  · rw [if_neg hw] at h
    exact absurd h (by simp)
end Go.Proofs.Ythldophikcgkcaa.X
