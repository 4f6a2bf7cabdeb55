-- by xprint.py (this session's program over the kit's print)
import Derived.Test.YtplkhmfoehjaoaaPFnExactLayx0
import Derived.Test.YtplkhmfoehjaoaaPFnExactLayx1
import Derived.Test.YtplkhmfoehjaoaaPFnExactLayx2
import Derived.Test.YtplkhmfoehjaoaaPFnExactLayx3
import Derived.Test.YtplkhmfoehjaoaaPFnExactLayx4
import Derived.Test.YtplkhmfoehjaoaaPFnExactLayx5
import Derived.Test.YtplkhmfoehjaoaaPFnExactLayx6
namespace Go.Proofs.Ytplkhmfoehjaoaa.PFnExactLay
open Go.RowKit Go.Proofs.YtplkhmfoehjaoaaW.PrintWords Go.Proofs.YtplkhmfoehjaoaaW.PrintLast Go.Proofs.YtplkhmfoehjaoaaW.PrintMore
attribute [local go_sem] max2_int min2_int max_two min_two max_three min_three max_four min_four   -- for this text's walks alone
set_option linter.unusedVariables false
set_option linter.unusedSimpArgs false

end Go.Proofs.Ytplkhmfoehjaoaa.PFnExactLay
