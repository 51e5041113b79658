/- A shape, a place among the arguments: opened. -/
import Derived.Test.YtnnkenbcdepafaaDoorHRow
namespace Go.Proofs.YtnnkenbcdepafaaDoor.H
open Go.ChangeShapes Go.WideShapes Go.ChangeAt Go.RowKit Go.Joins
open Go.ChangeMaps (open_string shut_string)
set_option linter.unusedVariables false
set_option maxRecDepth 100000

theorem cells_shape : Tryd.prog.cellsOf 23 = 4 := by kernel_rfl
theorem cells_place : Tryd.prog.cellsOf 41 = 7 := by kernel_rfl
theorem cells_int : Tryd.prog.cellsOf 3 = 1 := by kernel_rfl
theorem wf_range {n : Int} (h : (Lit.int .i64 n).wf = true) : -9223372036854775808 ≤ n ∧ n ≤ 9223372036854775807 := by
  have e0 : IntKind.i64.min = -9223372036854775808 := by decide
  have e1 : IntKind.i64.max = 9223372036854775807 := by decide
  simp [Lit.wf] at h
  omega

theorem shape_cells {H : Type} {enc : TypeId × Value → H} {W : World} {base fuel : Nat} {sp : Nat → Bool} {cs : List Value} {x : DataW H × List MemPlace}
    (h : DataW.trod enc Tryd.prog W base sp true fuel 23 cs = some x) :
    ∃ d r s m : Int, cs = [.int .i64 d, .int .i64 r, .int .i64 s, .int .i64 m] ∧ x.2 = [] ∧ (-9223372036854775808 ≤ d ∧ d ≤ 9223372036854775807) ∧ (-9223372036854775808 ≤ s ∧ s ≤ 9223372036854775807) := by
  obtain ⟨y0, y1, y2, y3, n, rfl, hl, h0, h1, h2, h3⟩ := trod_struct4 Tryd.underlying23 h
  rw [cells_shape] at hl
  match cs, hl with
  | [c0, c1, c2, c3], _ =>
    obtain ⟨d, e0, rfl, w0⟩ := DataW.trod_int Tryd.underlying3 h0
    obtain ⟨r, e1, rfl, w1⟩ := DataW.trod_int Tryd.underlying3 h1
    obtain ⟨s, e2, rfl, w2⟩ := DataW.trod_int Tryd.underlying3 h2
    obtain ⟨m, e3, rfl, w3⟩ := DataW.trod_int Tryd.underlying3 h3
    simp [cells_int] at e0 e1 e2 e3
    subst e0 e1 e2 e3
    exact ⟨d, r, s, m, rfl, rfl, wf_range w0, wf_range w2⟩
theorem open_shape {H : Type} {enc : TypeId × Value → H} {W : World} {base b0 : Nat} {r0 : Reach} {sp : Nat → Bool} {v : Value} {dd : DataW H} {p : List MemPlace}
    (hv : Value.okWide Tryd.prog W r0 b0 23 v) (h : DataW.Trod enc Tryd.prog W base sp true 23 v dd p) :
    ∃ d r s m : Int, v = .agg #[.int .i64 d, .int .i64 r, .int .i64 s, .int .i64 m] ∧ p = [] ∧ (-9223372036854775808 ≤ d ∧ d ≤ 9223372036854775807) ∧ (-9223372036854775808 ≤ s ∧ s ≤ 9223372036854775807) := by
  obtain ⟨cs, rfl, hsz⟩ := okWide_struct Tryd.underlying23 hv
  obtain ⟨fuel, hf⟩ := h
  obtain ⟨d, r, s, m, e, hp, h1, h2⟩ := shape_cells hf
  refine ⟨d, r, s, m, ?_, hp, h1, h2⟩
  obtain ⟨l⟩ := cs
  simp [Value.cells] at e
  rw [e]
theorem open_place {H : Type} {enc : TypeId × Value → H} {W : World} {base b0 : Nat} {r0 : Reach} {sp : Nat → Bool} {v : Value} {dd : DataW H} {p : List MemPlace}
    (hv : Value.okWide Tryd.prog W r0 b0 41 v) (h : DataW.Trod enc Tryd.prog W base sp true 41 v dd p) :
    ∃ (b : ByteArray) (i k d r s m : Int), v = .agg #[.string b, .int .i64 i, .int .i64 k, .int .i64 d, .int .i64 r, .int .i64 s, .int .i64 m] ∧ p = [] ∧ (-9223372036854775808 ≤ i ∧ i ≤ 9223372036854775807) ∧ (-9223372036854775808 ≤ k ∧ k ≤ 9223372036854775807) := by
  obtain ⟨cs, rfl, hsz⟩ := okWide_struct Tryd.underlying41 hv
  obtain ⟨fuel, hf⟩ := h
  obtain ⟨y0, y1, y2, y3, n, hx, hl, h0, h1, h2, h3⟩ := trod_struct4 Tryd.underlying41 hf
  obtain ⟨l⟩ := cs
  simp only [Value.cells] at hl h0 h1 h2 h3
  rw [cells_place] at hl
  match l, hl with
  | [c0, c1, c2, c3, c4, c5, c6], _ =>
    obtain ⟨b, e0, rfl, w0⟩ := DataW.trod_string Tryd.underlying9 h0
    obtain ⟨i, e1, rfl, w1⟩ := DataW.trod_int Tryd.underlying3 h1
    obtain ⟨k, e2, rfl, w2⟩ := DataW.trod_int Tryd.underlying3 h2
    obtain ⟨d, r, s, m, e3, hp, _, _⟩ := shape_cells h3
    simp [cells_int, cells_str, cells_shape] at e0 e1 e2 e3
    obtain ⟨rfl, rfl, rfl, rfl⟩ := e3
    subst e0 e1 e2
    refine ⟨b, i, k, d, r, s, m, rfl, ?_, wf_range w1, wf_range w2⟩
    have := congrArg Prod.snd hx
    simp at this
    rw [this, hp]
end Go.Proofs.YtnnkenbcdepafaaDoor.H
