-- Printed by wip/xprint of this session, over the kit's print: Lean functions for Go functions, and their contracts.
import Derived.Test.YtfblmfefcgmpfacPHexax0
import Derived.Test.YtfblmfefcgmpfacPHexax1
import Derived.Test.YtfblmfefcgmpfacPHexax2
import Derived.Test.YtfblmfefcgmpfacPHexax3
import Derived.Test.YtfblmfefcgmpfacPHexax4
import Derived.Test.YtfblmfefcgmpfacPHexax5
import Derived.Test.YtfblmfefcgmpfacPHexax6
import Derived.Test.YtfblmfefcgmpfacPHexax7
import Derived.Test.YtfblmfefcgmpfacPHexax8
import Derived.Test.YtfblmfefcgmpfacPHexax9
namespace Go.Proofs.Ytfblmfefcgmpfac.PHexa
open Go.RowKit Go.Proofs.YtfblmfefcgmpfacW.PrintWords Go.Proofs.YtfblmfefcgmpfacW.PrintLast Go.Proofs.YtfblmfefcgmpfacW.PrintMore Go.Proofs.Ytfblmfefcgmpfac.X
attribute [local go_sem] max2_int min2_int max_two min_two max_three min_three max_four min_four   -- for this text's walks alone
set_option linter.unusedVariables false
set_option linter.unusedSimpArgs false

end Go.Proofs.Ytfblmfefcgmpfac.PHexa
