/- Walks of functions of the given program, written by a program of this session (hp.py). -/
import Derived.Test.YtnnkenbcdepafaaDoorB0
import Derived.Test.YtnnkenbcdepafaaDoorB1
import Derived.Test.YtnnkenbcdepafaaDoorB2
import Derived.Test.YtnnkenbcdepafaaDoorB3
import Derived.Test.YtnnkenbcdepafaaDoorB4
namespace Go.Proofs.YtnnkenbcdepafaaDoor.B
open Go.RowKit Go.Proofs.YtnnkenbcdepafaaDoorW.PrintWords Go.Proofs.YtnnkenbcdepafaaDoorW.PrintLast Go.Proofs.YtnnkenbcdepafaaDoorW.PrintMore
attribute [local go_sem] max2_int min2_int max_two min_two max_three min_three max_four min_four   -- for this text's walks alone
set_option linter.unusedVariables false
set_option linter.unusedSimpArgs false

end Go.Proofs.YtnnkenbcdepafaaDoor.B
