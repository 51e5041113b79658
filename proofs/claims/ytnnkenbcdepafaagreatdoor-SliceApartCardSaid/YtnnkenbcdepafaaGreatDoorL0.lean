/- Walks of functions of the given program, written by a program of this session (hp.py). -/
import Derived.Test.YtnnkenbcdepafaaGreatDoorProg
import Derived.Below
import Derived.Deep.Draws
import Derived.Deep.AppendLies
import Derived.Maps.AppendAt
import Derived.OwnWalk
import Derived.Laws.BytesArg
import Derived.Laws.MakeOwn
import Derived.Laws.OwnMore
import Derived.Deep.OwnRows
import Derived.Tactics
import Derived.Lib.ConvBytes
import Derived.Laws.Slices
import Derived.WalkKit
import Derived.KernelRfl
import Derived.RowKit3
import Derived.Deep.LoopGhost
import Derived.Deep.QuietTactic
import Derived.BigQuiet
import Derived.WideLaws
import Derived.Deep.DeepCutAuto
import Derived.Deep.CutBlock
import Derived.Deep.RegionHeld3
import Derived.Laws.Rows
import Derived.Lib.AppendStr
import Derived.ArgAppend
import Derived.Laws.IdiomCopy
import Derived.OrdersHeld
import Derived.Laws.BitsLemmas
import Derived.RowKit
import Derived.Test.YtnnkenbcdepafaaGreatDoorK3
import Derived.Test.YtnnkenbcdepafaaGreatDoorHJoin
import Derived.Test.YtnnkenbcdepafaaGreatDoorHParse
import Derived.Test.YtnnkenbcdepafaaGreatDoorA
import Derived.Test.YtnnkenbcdepafaaGreatDoorWWords
import Derived.Test.YtnnkenbcdepafaaGreatDoorWLast
import Derived.Test.YtnnkenbcdepafaaGreatDoorWTab
import Derived.Test.YtnnkenbcdepafaaGreatDoorWFour
import Derived.Test.YtnnkenbcdepafaaGreatDoorWQPut
import Derived.Test.YtnnkenbcdepafaaGreatDoorWApart
import Derived.Test.YtnnkenbcdepafaaGreatDoorWArr
import Derived.Test.YtnnkenbcdepafaaGreatDoorWZeros
import Derived.Test.YtnnkenbcdepafaaGreatDoorWFoot
import Derived.Test.YtnnkenbcdepafaaGreatDoorWKept
import Derived.Test.YtnnkenbcdepafaaGreatDoorWShare
import Derived.Test.YtnnkenbcdepafaaGreatDoorWN
import Derived.Test.YtnnkenbcdepafaaGreatDoorWFootNe
import Derived.Test.YtnnkenbcdepafaaGreatDoorWAt
import Derived.Test.YtnnkenbcdepafaaGreatDoorWEqStruct
import Derived.Test.YtnnkenbcdepafaaGreatDoorWRepsOne
import Derived.Test.YtnnkenbcdepafaaGreatDoorWInv
import Derived.Test.YtnnkenbcdepafaaGreatDoorWInvWords
import Derived.Test.YtnnkenbcdepafaaGreatDoorWGuard
import Derived.Test.YtnnkenbcdepafaaGreatDoorWNEv
import Derived.Test.YtnnkenbcdepafaaGreatDoorWMore
namespace Go.Proofs.YtnnkenbcdepafaaGreatDoor.L
open Go.RowKit Go.Proofs.YtnnkenbcdepafaaGreatDoor.B Go.Proofs.YtnnkenbcdepafaaGreatDoor.H Go.Proofs.YtnnkenbcdepafaaGreatDoor.A Go.Proofs.YtnnkenbcdepafaaGreatDoorW.PrintWords Go.Proofs.YtnnkenbcdepafaaGreatDoorW.PrintLast Go.Proofs.YtnnkenbcdepafaaGreatDoorW.PrintMore
attribute [local go_sem] max2_int min2_int max_two min_two max_three min_three max_four min_four   -- for this text's walks alone
set_option linter.unusedVariables false
set_option linter.unusedSimpArgs false



def errW : Option Int → Value
  | none => .nilIface
  | some c => .iface 0 (.int .i64 c)
theorem errW_none : errW none = .nilIface := rfl
theorem errW_some (c : Int) : errW (some c) = .iface 0 (.int .i64 c) := rfl

-- the values' own types

end Go.Proofs.YtnnkenbcdepafaaGreatDoor.L
