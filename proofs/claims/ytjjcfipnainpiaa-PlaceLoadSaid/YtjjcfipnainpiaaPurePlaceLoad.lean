/- What each node has to do: told as the document says; the walk (LawLoad) shows it whole. -/
import Derived.Test.YtjjcfipnainpiaaPLoadx1
namespace Go.Proofs.Ytjjcfipnainpiaa.Pure
open Go.RowKit Go.Proofs.Ytjjcfipnainpiaa.PLoad Go.Proofs.YtjjcfipnainpiaaW.PrintWords Go.Proofs.YtjjcfipnainpiaaW.PrintLast Go.Proofs.Ytjjcfipnainpiaa.X
theorem PlaceLoad : tarnlaw41_PlaceLoad.Pure := by
  intro a b c l1 l2 _
  rfl
end Go.Proofs.Ytjjcfipnainpiaa.Pure
