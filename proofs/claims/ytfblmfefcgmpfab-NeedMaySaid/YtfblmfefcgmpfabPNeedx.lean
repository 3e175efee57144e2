-- Printed by wip/xprint of this session, over the kit's print: Lean functions for Go functions, and their contracts.
import Derived.Test.YtfblmfefcgmpfabPNeedx0
import Derived.Test.YtfblmfefcgmpfabPNeedx1
import Derived.Test.YtfblmfefcgmpfabPNeedx2
import Derived.Test.YtfblmfefcgmpfabPNeedx3
import Derived.Test.YtfblmfefcgmpfabPNeedx4
import Derived.Test.YtfblmfefcgmpfabPNeedx5
import Derived.Test.YtfblmfefcgmpfabPNeedx6
import Derived.Test.YtfblmfefcgmpfabPNeedx7
import Derived.Test.YtfblmfefcgmpfabPNeedx8
import Derived.Test.YtfblmfefcgmpfabPNeedx9
namespace Go.Proofs.Ytfblmfefcgmpfab.PNeed
open Go.RowKit Go.Proofs.YtfblmfefcgmpfabW.PrintWords Go.Proofs.YtfblmfefcgmpfabW.PrintLast Go.Proofs.YtfblmfefcgmpfabW.PrintMore Go.Proofs.Ytfblmfefcgmpfab.X
attribute [local go_sem] max2_int min2_int max_two min_two max_three min_three max_four min_four   -- for this text's walks alone
set_option linter.unusedVariables false
set_option linter.unusedSimpArgs false

end Go.Proofs.Ytfblmfefcgmpfab.PNeed
