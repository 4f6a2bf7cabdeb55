-- by xprint.py (this session's program over the kit's print)
import Derived.Test.YtplkhmfoehjaoaaPFnExactMovedx0
import Derived.Test.YtplkhmfoehjaoaaPFnExactMovedx1
import Derived.Test.YtplkhmfoehjaoaaPFnExactMovedx2
import Derived.Test.YtplkhmfoehjaoaaPFnExactMovedx3
import Derived.Test.YtplkhmfoehjaoaaPFnExactMovedx4
import Derived.Test.YtplkhmfoehjaoaaPFnExactMovedx5
import Derived.Test.YtplkhmfoehjaoaaPFnExactMovedx6
namespace Go.Proofs.Ytplkhmfoehjaoaa.PFnExactMoved
open Go.RowKit Go.Proofs.YtplkhmfoehjaoaaW.PrintWords Go.Proofs.YtplkhmfoehjaoaaW.PrintLast Go.Proofs.YtplkhmfoehjaoaaW.PrintMore
attribute [local go_sem] max2_int min2_int max_two min_two max_three min_three max_four min_four   -- for this text's walks alone
set_option linter.unusedVariables false
set_option linter.unusedSimpArgs false

end Go.Proofs.Ytplkhmfoehjaoaa.PFnExactMoved
