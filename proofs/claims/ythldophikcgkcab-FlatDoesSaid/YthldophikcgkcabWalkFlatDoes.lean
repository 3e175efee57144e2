/- tarnlaw35.FlatDoes: the law's walk, as the print asks for it. -/
import Derived.Test.YthldophikcgkcabFlatDoes
namespace Go.Proofs.Ythldophikcgkcab.X
open Go.RowKit Go.Proofs.YthldophikcgkcabW.PrintWords Go.Proofs.Ythldophikcgkcab.PDoes
open Classical in
/-- The walk wants that the numbers that are asked for are such as an int holds: that is what the statement's own inputs are. -/
noncomputable def tarnlaw35_FlatDoes.f (_a0 : Int) (l1 : List S66) (_a2 : Int) : Option Bool := if ∀ y ∈ l1, In y.f0 ∧ In y.f1 ∧ In y.f2 ∧ y.f3.size ≤ 9223372036854775807 then some true else none
theorem tarnlaw35_FlatDoes.calls (a0 : Int) (A1 : Option Addr) (c1 : Nat) (l1 : List S66) (a2 : Int) (r : Bool) (w : World) (hr1 : Kd.C k66 w A1 l1.length l1) (hc1 : l1.length ≤ c1) (h : tarnlaw35_FlatDoes.f a0 l1 a2 = some r) :
    Calls Try.prog 5 #[.int .i64 a0, .slice A1 l1.length c1, .int .i64 a2] w fun e w' => e = .returned (.bool r) ∧ Below w.heap.size w w' := by
  unfold tarnlaw35_FlatDoes.f at h
  by_cases hw : ∀ y ∈ l1, In y.f0 ∧ In y.f1 ∧ In y.f2 ∧ y.f3.size ≤ 9223372036854775807
  · rw [if_pos hw] at h
    obtain rfl := Option.some.inj h
    exact Y.walk_does a0 a2 A1 c1 l1 w hr1 hc1 hw
  · rw [if_neg hw] at h
    exact absurd h (by simp)
end Go.Proofs.Ythldophikcgkcab.X
