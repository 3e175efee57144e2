/- Whatever the others say: what is known of them is what the document says; the walk (WalkLeadPlays) shows it whole. No conditions. -/
import Derived.Test.YtdlgdenigmnfiaaPLeadPx1
namespace Go.Proofs.Ytdlgdenigmnfiaa.Pure
open Go.RowKit Go.Proofs.Ytdlgdenigmnfiaa.PLeadP Go.Proofs.YtdlgdenigmnfiaaW.PrintWords Go.Proofs.YtdlgdenigmnfiaaW.PrintLast Go.Proofs.Ytdlgdenigmnfiaa.X
theorem LeadPlays : tarnlaw18_LeadPlays.Pure := by
  intro a l _ _
  rfl
end Go.Proofs.Ytdlgdenigmnfiaa.Pure
