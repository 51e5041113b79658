/- The rows of what was cut, read by the laws' loops; over plain words. -/
import Derived.Test.YtnnkenbcdepafaaDoorL0
import Derived.Test.YtnnkenbcdepafaaDoorHCS
namespace Go.Proofs.YtnnkenbcdepafaaDoor.H
open Go.RowKit Go.Proofs.YtnnkenbcdepafaaDoorW.PrintWords Go.Proofs.YtnnkenbcdepafaaDoor.L
set_option linter.unusedVariables false

theorem rd_vols (all : List UInt8) (D S K v : Nat) (h : v < K) : rd_L1 (volsTo all D S K) (v : Int) = volTo all D S v D := by
  unfold rd_L1 volsTo
  rw [Int.toNat_natCast, List.getD_eq_getElem?_getD, List.getElem?_map, List.getElem?_range h]
  rfl
theorem rd_row (all : List UInt8) (D S v i : Nat) (h : i < D) : rdOf ByteArray.empty (volTo all D S v D) (i : Int) = rowL all S (v * D + i) := by
  unfold rdOf volTo
  rw [Int.toNat_natCast, List.getD_eq_getElem?_getD, List.getElem?_map, List.getElem?_range h]
  rfl
end Go.Proofs.YtnnkenbcdepafaaDoor.H
