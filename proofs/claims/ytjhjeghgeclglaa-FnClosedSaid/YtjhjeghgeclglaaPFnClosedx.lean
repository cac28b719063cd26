-- THIN: printed by the kit's print, then mended and its indentation halved by programs of this session.
import Derived.Test.YtjhjeghgeclglaaPFnClosedx0
import Derived.Test.YtjhjeghgeclglaaPFnClosedx1
import Derived.Test.YtjhjeghgeclglaaPFnClosedx2
import Derived.Test.YtjhjeghgeclglaaPFnClosedx3
import Derived.Test.YtjhjeghgeclglaaPFnClosedx4
import Derived.Test.YtjhjeghgeclglaaPFnClosedx5
import Derived.Test.YtjhjeghgeclglaaPFnClosedx6
import Derived.Test.YtjhjeghgeclglaaPFnClosedx7
import Derived.Test.YtjhjeghgeclglaaPFnClosedx8
import Derived.Test.YtjhjeghgeclglaaPFnClosedx9
import Derived.Test.YtjhjeghgeclglaaPFnClosedx10
import Derived.Test.YtjhjeghgeclglaaPFnClosedx11
namespace Go.Proofs.Ytjhjeghgeclglaa.PFnClosed
open Go.RowKit Go.Proofs.YtjhjeghgeclglaaW.PrintWords Go.Proofs.YtjhjeghgeclglaaW.PrintLast Go.Proofs.YtjhjeghgeclglaaW.PrintMore
attribute [local go_sem] max2_int min2_int max_two min_two max_three min_three max_four min_four   -- for this text's walks alone
set_option linter.unusedVariables false
set_option linter.unusedSimpArgs false

end Go.Proofs.Ytjhjeghgeclglaa.PFnClosed
