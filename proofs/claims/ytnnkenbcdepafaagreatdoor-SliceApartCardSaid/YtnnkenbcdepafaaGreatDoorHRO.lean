/- What the rows' listed variables give the walks (LaidW), and a start in which they lie as their initialisers lay them. A shape, a place among the arguments: opened. -/
import Derived.Test.YtnnkenbcdepafaaGreatDoorCards
import Derived.Test.YtnnkenbcdepafaaGreatDoorTie
import Derived.Test.YtnnkenbcdepafaaGreatDoorH1
import Derived.Stop.LaidErr
import Derived.Lib.LaidTab
import Derived.Lib.SmallJoins
import Derived.Deep.DeepHandedRow
import Derived.Deep.DeepWitnessRowRef
import Derived.Deep.DeepLaidRun
import Derived.WalkKit
import Derived.ProofKit
import Derived.OpenShut
import Derived.ShutString
import Derived.SizedLaws
import Derived.ChangeSame
namespace Go.Proofs.YtnnkenbcdepafaaGreatDoor.H
open Go.ChangeShapes Go.WideShapes Go.ChangeAt Go.RowKit
open Go.ChangeMaps (open_string shut_string)
set_option linter.unusedVariables false
set_option maxRecDepth 100000

theorem own : ownKnob Tryz.prog.godebug = none := by kernel_rfl
theorem laidOut : laidOutB Tryz.prog = true := by kernel_rfl
theorem g_tab : Tryz.prog.globalNamed "internal/strconv.uint64pow10" = some 3 := by kernel_rfl
theorem g_tabType : (Tryz.prog.globals[3]?).map (·.type) = some 144 := by kernel_rfl
theorem cells_tab : Tryz.prog.cellsOf 144 = 20 := by kernel_rfl
theorem cells_u64 : Tryz.prog.cellsOf 68 = 1 := by kernel_rfl
theorem under_tab : Tryz.prog.underlying 144 = some (.array 20 68) := by kernel_rfl
theorem g_rng : Tryz.prog.globalNamed "strconv.ErrRange" = some 2 := by kernel_rfl
theorem g_rngType : (Tryz.prog.globals[2]?).map (·.type) = some 47 := by kernel_rfl
theorem g_syn : Tryz.prog.globalNamed "strconv.ErrSyntax" = some 1 := by kernel_rfl
theorem g_synType : (Tryz.prog.globals[1]?).map (·.type) = some 47 := by kernel_rfl
theorem cells_err : Tryz.prog.cellsOf 152 = 1 := by kernel_rfl
theorem cells_str : Tryz.prog.cellsOf 9 = 1 := by kernel_rfl
theorem star_err : "*" ++ "errors.errorString" = "*errors.errorString" := by decide
theorem row_err (u : TypeId) (h : Tryz.prog.typeName? 3 u = some "*errors.errorString") : u = 150 :=
  typeName_ptr_named (nm := "errors.errorString") (by rw [star_err]; kernel_rfl) (by kernel_rfl) (by decide) u (by rw [star_err]; exact h)

theorem laidMetH_plain {W : World} (h : laidMetH Tryz.prog Rows.sliceApartRow.laid W) : laidMet Tryz.prog Rows.sliceApartRow.laid W := h

theorem LaidW.of_row {W : World} (h : laidMetH Tryz.prog Rows.sliceApartRow.laid W) : LaidW W := by
  have h0 := laidMetH_plain h
  have h1 := h0.tail.tail
  have h2 := h1.tail.tail
  have h3 := h2.tail
  obtain ⟨a0, s0, hv0, _⟩ := laid_sentinel h2 g_rng g_rngType Tryz.underlying47 row_err Tryz.underlying150 Tryz.underlying152 rfl rfl Tryz.underlying9 cells_err cells_str
  obtain ⟨a1, s1, hv1, _⟩ := laid_sentinel h3 g_syn g_synType Tryz.underlying47 row_err Tryz.underlying150 Tryz.underlying152 rfl rfl Tryz.underlying9 cells_err cells_str
  exact ⟨Lib.tabIs_of_head g_tab g_tabType under_tab Tryz.underlying68 cells_u64 cells_tab h1, ⟨_, _, World.var?_cell g_syn hv1 0⟩, ⟨_, _, World.var?_cell g_rng hv0 0⟩⟩

/-! ### A start that fits -/
def leaf (d : DataW Unit) : List Value := match d with | .lit (.int k z) => [.int k z] | _ => []
def leaves (d : DataW Unit) : List Value := match d with | .agg l => l.flatMap (fun x => match x with | .agg l2 => l2.flatMap leaf | x => leaf x) | _ => []
def lay (g : Nat) (cs : Array Value) (h : Array Obj) : Array Obj := h.modify g fun
  | .cells _ t frozen => .cells cs t frozen
  | o => o
noncomputable def low : Nat := (World.holding Tryz.prog default ⟨#[], #[], []⟩).heap.size
def synS : ByteArray := ⟨#[105, 110, 118, 97, 108, 105, 100, 32, 115, 121, 110, 116, 97, 120]⟩
def rngS : ByteArray := ⟨#[118, 97, 108, 117, 101, 32, 111, 117, 116, 32, 111, 102, 32, 114, 97, 110, 103, 101]⟩
noncomputable def laidWorld (os : Os) : World :=
  let w0 := World.holding Tryz.prog os ⟨#[.cells #[.string synS] 152, .cells #[.string rngS] 152], #[], []⟩
  { w0 with heap := lay 1 #[.iface 150 (.pointer (some ⟨low, 0, none⟩))] (lay 2 #[.iface 150 (.pointer (some ⟨low + 1, 0, none⟩))]
      (lay 4 (leaves Go.Pinned.utf8First).toArray (lay 5 (leaves Rows.laid_unicode_utf8_acceptRanges).toArray (lay 3 (leaves Rows.laid_internal_strconv_uint64pow10).toArray
        (lay 6 (leaves Rows.laid_math_bits_deBruijn32tab).toArray (lay 7 (leaves Rows.laid_math_bits_deBruijn64tab).toArray w0.heap)))))) }
theorem laidWorld_met (os : Os) (args : Array Value) : laidMet Tryz.prog Rows.sliceApartRow.laid ((laidWorld os).forCall (fun _ _ => 0) ⟨#[], args, []⟩).memory :=
  laidMet_of_run3 8 (by kernel_rfl) (by kernel_rfl) (by kernel_rfl)
theorem laidWorld_metH (os : Os) (args : Array Value) : laidMetH Tryz.prog Rows.sliceApartRow.laid ((laidWorld os).forCall (fun _ _ => 0) ⟨#[], args, []⟩).memory := laidWorld_met os args
end Go.Proofs.YtnnkenbcdepafaaGreatDoor.H

namespace Go.Proofs.YtnnkenbcdepafaaGreatDoor.H
open Go.ChangeShapes Go.WideShapes Go.ChangeAt Go.RowKit Go.Joins
open Go.ChangeMaps (open_string shut_string)
set_option linter.unusedVariables false
set_option maxRecDepth 100000

theorem cells_shape : Tryz.prog.cellsOf 23 = 4 := by kernel_rfl
theorem cells_place : Tryz.prog.cellsOf 25 = 7 := by kernel_rfl
theorem cells_int : Tryz.prog.cellsOf 3 = 1 := by kernel_rfl
theorem wf_range {n : Int} (h : (Lit.int .i64 n).wf = true) : -9223372036854775808 ≤ n ∧ n ≤ 9223372036854775807 := by
  have e0 : IntKind.i64.min = -9223372036854775808 := by decide
  have e1 : IntKind.i64.max = 9223372036854775807 := by decide
  simp [Lit.wf] at h
  omega

theorem shape_cells {H : Type} {enc : TypeId × Value → H} {W : World} {base fuel : Nat} {sp : Nat → Bool} {cs : List Value} {x : DataW H × List MemPlace}
    (h : DataW.trod enc Tryz.prog W base sp true fuel 23 cs = some x) :
    ∃ d r s m : Int, cs = [.int .i64 d, .int .i64 r, .int .i64 s, .int .i64 m] ∧ x.2 = [] ∧ (-9223372036854775808 ≤ d ∧ d ≤ 9223372036854775807) ∧ (-9223372036854775808 ≤ s ∧ s ≤ 9223372036854775807) := by
  obtain ⟨y0, y1, y2, y3, n, rfl, hl, h0, h1, h2, h3⟩ := trod_struct4 Tryz.underlying23 h
  rw [cells_shape] at hl
  match cs, hl with
  | [c0, c1, c2, c3], _ =>
    obtain ⟨d, e0, rfl, w0⟩ := DataW.trod_int Tryz.underlying3 h0
    obtain ⟨r, e1, rfl, w1⟩ := DataW.trod_int Tryz.underlying3 h1
    obtain ⟨s, e2, rfl, w2⟩ := DataW.trod_int Tryz.underlying3 h2
    obtain ⟨m, e3, rfl, w3⟩ := DataW.trod_int Tryz.underlying3 h3
    simp [cells_int] at e0 e1 e2 e3
    subst e0 e1 e2 e3
    exact ⟨d, r, s, m, rfl, rfl, wf_range w0, wf_range w2⟩
theorem open_shape {H : Type} {enc : TypeId × Value → H} {W : World} {base b0 : Nat} {r0 : Reach} {sp : Nat → Bool} {v : Value} {dd : DataW H} {p : List MemPlace}
    (hv : Value.okWide Tryz.prog W r0 b0 23 v) (h : DataW.Trod enc Tryz.prog W base sp true 23 v dd p) :
    ∃ d r s m : Int, v = .agg #[.int .i64 d, .int .i64 r, .int .i64 s, .int .i64 m] ∧ p = [] ∧ (-9223372036854775808 ≤ d ∧ d ≤ 9223372036854775807) ∧ (-9223372036854775808 ≤ s ∧ s ≤ 9223372036854775807) := by
  obtain ⟨cs, rfl, hsz⟩ := okWide_struct Tryz.underlying23 hv
  obtain ⟨fuel, hf⟩ := h
  obtain ⟨d, r, s, m, e, hp, h1, h2⟩ := shape_cells hf
  refine ⟨d, r, s, m, ?_, hp, h1, h2⟩
  obtain ⟨l⟩ := cs
  simp [Value.cells] at e
  rw [e]
theorem open_place {H : Type} {enc : TypeId × Value → H} {W : World} {base b0 : Nat} {r0 : Reach} {sp : Nat → Bool} {v : Value} {dd : DataW H} {p : List MemPlace}
    (hv : Value.okWide Tryz.prog W r0 b0 25 v) (h : DataW.Trod enc Tryz.prog W base sp true 25 v dd p) :
    ∃ (b : ByteArray) (i k d r s m : Int), v = .agg #[.string b, .int .i64 i, .int .i64 k, .int .i64 d, .int .i64 r, .int .i64 s, .int .i64 m] ∧ p = [] ∧ (-9223372036854775808 ≤ i ∧ i ≤ 9223372036854775807) ∧ (-9223372036854775808 ≤ k ∧ k ≤ 9223372036854775807) := by
  obtain ⟨cs, rfl, hsz⟩ := okWide_struct Tryz.underlying25 hv
  obtain ⟨fuel, hf⟩ := h
  obtain ⟨y0, y1, y2, y3, n, hx, hl, h0, h1, h2, h3⟩ := trod_struct4 Tryz.underlying25 hf
  obtain ⟨l⟩ := cs
  simp only [Value.cells] at hl h0 h1 h2 h3
  rw [cells_place] at hl
  match l, hl with
  | [c0, c1, c2, c3, c4, c5, c6], _ =>
    obtain ⟨b, e0, rfl, w0⟩ := DataW.trod_string Tryz.underlying9 h0
    obtain ⟨i, e1, rfl, w1⟩ := DataW.trod_int Tryz.underlying3 h1
    obtain ⟨k, e2, rfl, w2⟩ := DataW.trod_int Tryz.underlying3 h2
    obtain ⟨d, r, s, m, e3, hp, _, _⟩ := shape_cells h3
    simp [cells_int, cells_str, cells_shape] at e0 e1 e2 e3
    obtain ⟨rfl, rfl, rfl, rfl⟩ := e3
    subst e0 e1 e2
    refine ⟨b, i, k, d, r, s, m, rfl, ?_, wf_range w1, wf_range w2⟩
    have := congrArg Prod.snd hx
    simp at this
    rw [this, hp]
end Go.Proofs.YtnnkenbcdepafaaGreatDoor.H
