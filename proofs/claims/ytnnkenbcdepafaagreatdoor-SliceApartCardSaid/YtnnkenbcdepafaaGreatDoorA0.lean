/- Walks of functions of the given program, written by a program of this session (hp.py). -/
import Derived.Test.YtnnkenbcdepafaaGreatDoorProg
import Derived.Below
import Derived.Deep.Draws
import Derived.Deep.AppendLies
import Derived.Maps.AppendAt
import Derived.OwnWalk
import Derived.Laws.BytesArg
import Derived.Laws.MakeOwn
import Derived.Laws.OwnMore
import Derived.Deep.OwnRows
import Derived.Tactics
import Derived.Lib.ConvBytes
import Derived.Laws.Slices
import Derived.WalkKit
import Derived.KernelRfl
import Derived.RowKit3
import Derived.Deep.LoopGhost
import Derived.Deep.QuietTactic
import Derived.BigQuiet
import Derived.WideLaws
import Derived.Deep.DeepCutAuto
import Derived.Deep.CutBlock
import Derived.Deep.RegionHeld3
import Derived.Laws.Rows
import Derived.Lib.AppendStr
import Derived.ArgAppend
import Derived.Laws.IdiomCopy
import Derived.OrdersHeld
import Derived.Laws.BitsLemmas
import Derived.RowKit
import Derived.Test.YtnnkenbcdepafaaGreatDoorHJoin
import Derived.Test.YtnnkenbcdepafaaGreatDoorHParse
import Derived.Test.YtnnkenbcdepafaaGreatDoorWWords
import Derived.Test.YtnnkenbcdepafaaGreatDoorWLast
import Derived.Test.YtnnkenbcdepafaaGreatDoorWTab
import Derived.Test.YtnnkenbcdepafaaGreatDoorWFour
import Derived.Test.YtnnkenbcdepafaaGreatDoorWQPut
import Derived.Test.YtnnkenbcdepafaaGreatDoorWApart
import Derived.Test.YtnnkenbcdepafaaGreatDoorWArr
import Derived.Test.YtnnkenbcdepafaaGreatDoorWZeros
import Derived.Test.YtnnkenbcdepafaaGreatDoorWFoot
import Derived.Test.YtnnkenbcdepafaaGreatDoorWKept
import Derived.Test.YtnnkenbcdepafaaGreatDoorWShare
import Derived.Test.YtnnkenbcdepafaaGreatDoorWN
import Derived.Test.YtnnkenbcdepafaaGreatDoorWFootNe
import Derived.Test.YtnnkenbcdepafaaGreatDoorWAt
import Derived.Test.YtnnkenbcdepafaaGreatDoorWEqStruct
import Derived.Test.YtnnkenbcdepafaaGreatDoorWRepsOne
import Derived.Test.YtnnkenbcdepafaaGreatDoorWInv
import Derived.Test.YtnnkenbcdepafaaGreatDoorWInvWords
import Derived.Test.YtnnkenbcdepafaaGreatDoorWGuard
import Derived.Test.YtnnkenbcdepafaaGreatDoorWNEv
import Derived.Test.YtnnkenbcdepafaaGreatDoorWMore
namespace Go.Proofs.YtnnkenbcdepafaaGreatDoor.A
open Go.RowKit Go.Proofs.YtnnkenbcdepafaaGreatDoor.B Go.Proofs.YtnnkenbcdepafaaGreatDoor.H Go.Proofs.YtnnkenbcdepafaaGreatDoorW.PrintWords Go.Proofs.YtnnkenbcdepafaaGreatDoorW.PrintLast Go.Proofs.YtnnkenbcdepafaaGreatDoorW.PrintMore
attribute [local go_sem] max2_int min2_int max_two min_two max_three min_three max_four min_four   -- for this text's walks alone
set_option linter.unusedVariables false
set_option linter.unusedSimpArgs false



def errW : Option Int → Value
  | none => .nilIface
  | some c => .iface 0 (.int .i64 c)
theorem errW_none : errW none = .nilIface := rfl
theorem errW_some (c : Int) : errW (some c) = .iface 0 (.int .i64 c) := rfl

-- the values' own types
def rd_L1 (xs : List (List ByteArray)) (i : Int) : (List ByteArray) := xs.getD i.toNat ([] : List ByteArray)
theorem at_L1 {w : World} {A : Option Addr} {n : Nat} {xs : List (List ByteArray)} (h : Kd.C (Kd.slice 9 Kd.string) w A n xs) (i : Int) (h0 : 0 ≤ i) (h1 : i < n) : ∃ ad A0 c0, A = some ad ∧ w.cell? (ad.add i.toNat) = some (.slice A0 (rd_L1 xs i).length c0) ∧ (rd_L1 xs i).length ≤ c0 ∧ Kd.string.C w A0 (rd_L1 xs i).length (rd_L1 xs i) := by
  obtain ⟨ad, c, e, _, hK, hc0⟩ := Kd.C_get h ([] : List ByteArray) i h0 h1
  have hc : ∀ j u, c[j]? = some u → w.cell? (ad.add (i.toNat * 1 + j)) = some u := hc0
  obtain ⟨A0, c0, rfl, l0, g0⟩ := hK
  exact ⟨ad, A0, c0, e, by have hq := hc 0 _ rfl; rwa [Nat.mul_one, Nat.add_zero] at hq, l0, g0⟩

end Go.Proofs.YtnnkenbcdepafaaGreatDoor.A
