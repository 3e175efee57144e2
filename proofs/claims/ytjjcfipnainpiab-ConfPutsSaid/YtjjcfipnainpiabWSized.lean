-- Cut by wip/xprint/prune.py of this session out of what the kit's print had printed.
-- PRINTED WORDS (module Derived/Print/Sized.lean): go-gate-2's, for the rows of laws over slices: an AI agent of Go's test side, Tue Nov 17 2026; no person has read it. Lean checks it.
import Derived.SizedLaws
import Derived.ChangeSlices
namespace Go.Proofs.YtjjcfipnainpiabW.PrintWords
open Go.ChangeShapes Go.WideShapes
end Go.Proofs.YtjjcfipnainpiabW.PrintWords
