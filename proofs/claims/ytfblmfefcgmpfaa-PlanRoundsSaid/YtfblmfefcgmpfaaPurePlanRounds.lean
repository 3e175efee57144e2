/- How many rounds are enough is 140 and 24 for each part (0 to 4000) and each dirty block (0 to 64), 4000 at most; no conditions: for every two numbers. -/
import Derived.Test.YtfblmfefcgmpfaaPPlanRoundsx1
namespace Go.Proofs.Ytfblmfefcgmpfaa.Pure
open Go.RowKit Go.Proofs.Ytfblmfefcgmpfaa.PPlanRounds Go.Proofs.YtfblmfefcgmpfaaW.PrintWords Go.Proofs.YtfblmfefcgmpfaaW.PrintLast

theorem cut_is (a b : Int) : plan_cut.f a b = some (mn (mx a 0) b) := rfl

theorem rounds_is (a b : Int) : plan_Rounds.f a b = some (mn (140 + 24 * (mn (mx a 0) 4000 + mn (mx b 0) 64)) 4000) := by
  unfold plan_Rounds.f
  rw [cut_is, cut_is]
  simp only [Option.bind_some]
  have h1 : 0 ≤ mn (mx a 0) 4000 ∧ mn (mx a 0) 4000 ≤ 4000 := by unfold mn mx; omega
  have h2 : 0 ≤ mn (mx b 0) 64 ∧ mn (mx b 0) 64 ≤ 64 := by unfold mn mx; omega
  generalize mn (mx a 0) 4000 = x at *
  generalize mn (mx b 0) 64 = y at *
  have e : wrap64 (140 + wrap64 (24 * wrap64 (x + y))) = 140 + 24 * (x + y) := by unfold wrap64; omega
  rw [e]

theorem awake_is : tarnlaw37_awake.f = some true := by
  unfold tarnlaw37_awake.f
  simp only [rounds_is, Option.bind_some]
  rfl

theorem PlanRounds : tarnlaw37_PlanRounds.Pure := by
  intro a b _ _
  unfold tarnlaw37_PlanRounds.f
  rw [awake_is, rounds_is]
  simp

end Go.Proofs.Ytfblmfefcgmpfaa.Pure
