/- What the rows' listed variables give the walks (LaidW), and a start in which they lie as their initialisers lay them. -/
import Derived.Test.YtnnkenbcdepafaaDoorCards
import Derived.Test.YtnnkenbcdepafaaDoorTie
import Derived.Test.YtnnkenbcdepafaaDoorH1
import Derived.Stop.LaidErr
import Derived.Lib.LaidTab
import Derived.Lib.SmallJoins
import Derived.Deep.DeepHandedRow
import Derived.Deep.DeepWitnessRowRef
import Derived.Deep.DeepLaidRun
import Derived.WalkKit
import Derived.ProofKit
import Derived.OpenShut
import Derived.ShutString
import Derived.SizedLaws
import Derived.ChangeSame
namespace Go.Proofs.YtnnkenbcdepafaaDoor.H
open Go.ChangeShapes Go.WideShapes Go.ChangeAt Go.RowKit
open Go.ChangeMaps (open_string shut_string)
set_option linter.unusedVariables false
set_option maxRecDepth 100000

theorem own : ownKnob Tryd.prog.godebug = none := by kernel_rfl
theorem laidOut : laidOutB Tryd.prog = true := by kernel_rfl
theorem g_tab : Tryd.prog.globalNamed "internal/strconv.uint64pow10" = some 5 := by kernel_rfl
theorem g_tabType : (Tryd.prog.globals[5]?).map (·.type) = some 134 := by kernel_rfl
theorem cells_tab : Tryd.prog.cellsOf 134 = 20 := by kernel_rfl
theorem cells_u64 : Tryd.prog.cellsOf 67 = 1 := by kernel_rfl
theorem under_tab : Tryd.prog.underlying 134 = some (.array 20 67) := by kernel_rfl
theorem g_rng : Tryd.prog.globalNamed "strconv.ErrRange" = some 2 := by kernel_rfl
theorem g_rngType : (Tryd.prog.globals[2]?).map (·.type) = some 56 := by kernel_rfl
theorem g_syn : Tryd.prog.globalNamed "strconv.ErrSyntax" = some 1 := by kernel_rfl
theorem g_synType : (Tryd.prog.globals[1]?).map (·.type) = some 56 := by kernel_rfl
theorem cells_err : Tryd.prog.cellsOf 132 = 1 := by kernel_rfl
theorem cells_str : Tryd.prog.cellsOf 9 = 1 := by kernel_rfl
theorem star_err : "*" ++ "errors.errorString" = "*errors.errorString" := by decide
theorem row_err (u : TypeId) (h : Tryd.prog.typeName? 3 u = some "*errors.errorString") : u = 130 :=
  typeName_ptr_named (nm := "errors.errorString") (by rw [star_err]; kernel_rfl) (by kernel_rfl) (by decide) u (by rw [star_err]; exact h)

theorem laidMetH_plain {W : World} (h : laidMetH Tryd.prog Rows.sliceBackRow.laid W) : laidMet Tryd.prog Rows.sliceBackRow.laid W := h

theorem LaidW.of_row {W : World} (h : laidMetH Tryd.prog Rows.sliceBackRow.laid W) : LaidW W := by
  have h0 := laidMetH_plain h
  have h1 := h0.tail.tail
  have h2 := h1.tail.tail
  have h3 := h2.tail
  obtain ⟨a0, s0, hv0, _⟩ := laid_sentinel h2 g_rng g_rngType Tryd.underlying56 row_err Tryd.underlying130 Tryd.underlying132 rfl rfl Tryd.underlying9 cells_err cells_str
  obtain ⟨a1, s1, hv1, _⟩ := laid_sentinel h3 g_syn g_synType Tryd.underlying56 row_err Tryd.underlying130 Tryd.underlying132 rfl rfl Tryd.underlying9 cells_err cells_str
  exact ⟨Lib.tabIs_of_head g_tab g_tabType under_tab Tryd.underlying67 cells_u64 cells_tab h1, ⟨_, _, World.var?_cell g_syn hv1 0⟩, ⟨_, _, World.var?_cell g_rng hv0 0⟩⟩

/-! ### A start that fits -/
def leaf (d : DataW Unit) : List Value := match d with | .lit (.int k z) => [.int k z] | _ => []
def leaves (d : DataW Unit) : List Value := match d with | .agg l => l.flatMap (fun x => match x with | .agg l2 => l2.flatMap leaf | x => leaf x) | _ => []
def lay (g : Nat) (cs : Array Value) (h : Array Obj) : Array Obj := h.modify g fun
  | .cells _ t frozen => .cells cs t frozen
  | o => o
noncomputable def low : Nat := (World.holding Tryd.prog default ⟨#[], #[], []⟩).heap.size
def synS : ByteArray := ⟨#[105, 110, 118, 97, 108, 105, 100, 32, 115, 121, 110, 116, 97, 120]⟩
def rngS : ByteArray := ⟨#[118, 97, 108, 117, 101, 32, 111, 117, 116, 32, 111, 102, 32, 114, 97, 110, 103, 101]⟩
noncomputable def laidWorld (os : Os) : World :=
  let w0 := World.holding Tryd.prog os ⟨#[.cells #[.string synS] 132, .cells #[.string rngS] 132], #[], []⟩
  { w0 with heap := lay 1 #[.iface 130 (.pointer (some ⟨low, 0, none⟩))] (lay 2 #[.iface 130 (.pointer (some ⟨low + 1, 0, none⟩))]
      (lay 3 (leaves Go.Pinned.utf8First).toArray (lay 4 (leaves Rows.laid_unicode_utf8_acceptRanges).toArray (lay 5 (leaves Rows.laid_internal_strconv_uint64pow10).toArray
        (lay 6 (leaves Rows.laid_math_bits_deBruijn32tab).toArray (lay 7 (leaves Rows.laid_math_bits_deBruijn64tab).toArray w0.heap)))))) }
theorem laidWorld_met (os : Os) (args : Array Value) : laidMet Tryd.prog Rows.sliceBackRow.laid ((laidWorld os).forCall (fun _ _ => 0) ⟨#[], args, []⟩).memory :=
  laidMet_of_run3 8 (by kernel_rfl) (by kernel_rfl) (by kernel_rfl)
theorem laidWorld_metH (os : Os) (args : Array Value) : laidMetH Tryd.prog Rows.sliceBackRow.laid ((laidWorld os).forCall (fun _ _ => 0) ⟨#[], args, []⟩).memory := laidWorld_met os args
end Go.Proofs.YtnnkenbcdepafaaDoor.H
