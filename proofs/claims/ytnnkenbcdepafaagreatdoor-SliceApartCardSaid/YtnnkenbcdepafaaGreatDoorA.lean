/- Walks of functions of the given program, written by a program of this session (hp.py). -/
import Derived.Test.YtnnkenbcdepafaaGreatDoorA0
import Derived.Test.YtnnkenbcdepafaaGreatDoorA1
import Derived.Test.YtnnkenbcdepafaaGreatDoorA2
namespace Go.Proofs.YtnnkenbcdepafaaGreatDoor.A
open Go.RowKit Go.Proofs.YtnnkenbcdepafaaGreatDoor.B Go.Proofs.YtnnkenbcdepafaaGreatDoor.H Go.Proofs.YtnnkenbcdepafaaGreatDoorW.PrintWords Go.Proofs.YtnnkenbcdepafaaGreatDoorW.PrintLast Go.Proofs.YtnnkenbcdepafaaGreatDoorW.PrintMore
attribute [local go_sem] max2_int min2_int max_two min_two max_three min_three max_four min_four   -- for this text's walks alone
set_option linter.unusedVariables false
set_option linter.unusedSimpArgs false

end Go.Proofs.YtnnkenbcdepafaaGreatDoor.A
