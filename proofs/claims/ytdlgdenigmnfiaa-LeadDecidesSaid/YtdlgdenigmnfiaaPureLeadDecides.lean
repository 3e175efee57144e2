/- What most have is decided, if its entry is of the leader's own term; it never goes back: the walk (WalkLeadDecides) shows it whole. No conditions. -/
import Derived.Test.YtdlgdenigmnfiaaPLeadDx1
namespace Go.Proofs.Ytdlgdenigmnfiaa.Pure
open Go.RowKit Go.Proofs.Ytdlgdenigmnfiaa.PLeadD Go.Proofs.YtdlgdenigmnfiaaW.PrintWords Go.Proofs.YtdlgdenigmnfiaaW.PrintLast Go.Proofs.Ytdlgdenigmnfiaa.X
theorem LeadDecides : tarnlaw18_LeadDecides.Pure := by
  intro a b c l n _ _
  rfl
end Go.Proofs.Ytdlgdenigmnfiaa.Pure
