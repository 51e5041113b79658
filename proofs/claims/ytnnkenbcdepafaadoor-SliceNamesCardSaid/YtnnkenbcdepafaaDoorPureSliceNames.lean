/- The law SliceNames over plain words: with the contracts' functions, the examples and the limits answer as it says. -/
import Derived.Test.YtnnkenbcdepafaaDoorL7
import Derived.Test.YtnnkenbcdepafaaDoorHW
import Derived.Test.YtnnkenbcdepafaaDoorHG
namespace Go.Proofs.YtnnkenbcdepafaaDoor.H
open Go.RowKit Go.Proofs.YtnnkenbcdepafaaDoorW.PrintWords Go.Proofs.YtnnkenbcdepafaaDoor.B Go.Proofs.YtnnkenbcdepafaaDoor.A Go.Proofs.YtnnkenbcdepafaaDoor.L
set_option linter.unusedVariables false

theorem ev_all {α β : Type} (f : α → Nat → Option β) (g : α → β) : ∀ l : List α, (∀ x ∈ l, Ev (f x) (g x)) → ∃ K, ∀ x ∈ l, ∀ k, K ≤ k → f x k = some (g x)
  | [], _ => ⟨0, fun x hx => by cases hx⟩
  | x :: l, h => by
    obtain ⟨K1, h1⟩ := h x List.mem_cons_self
    obtain ⟨K2, h2⟩ := ev_all f g l (fun y hy => h y (List.mem_cons_of_mem _ hy))
    refine ⟨K1 + K2, fun y hy k hk => ?_⟩
    rcases List.mem_cons.1 hy with rfl | hy
    · exact h1 k (by omega)
    · exact h2 y hy k (by omega)

theorem names_loop (x9 x10 x12 x14 x16 : Int) (d r s m : Int) (y : List ByteArray) (hy : ∀ x ∈ y, goodC x = false ∧ x.size ≤ 1000) (hl : y.length ≤ 1000)
    (hend : shapeB d r s m = true ∧ x9 = 64 ∧ x10 = 0 ∧ x12 = 40 ∧ x14 = 1 ∧ x16 = 4) :
    ∀ (n i : Nat), i + n = y.length → hamperlaw26_SliceNames.l1 (n + 1) x9 x10 x12 x14 x16 y (y.length : Int) (i : Int) d r s m = some true := by
  intro n
  induction n with
  | zero =>
    intro i hi
    unfold hamperlaw26_SliceNames.l1
    rw [if_neg (by omega), shape_f, hend.1]
    obtain ⟨_, rfl, rfl, rfl, rfl, rfl⟩ := hend
    simp [awake_true]
  | succ n ih =>
    intro i hi
    have hlt : i < y.length := by omega
    have hm : rdOf ByteArray.empty y (i : Int) ∈ y := by
      unfold rdOf
      rw [Int.toNat_natCast, List.getD_eq_getElem?_getD, List.getElem?_eq_getElem hlt]
      exact List.getElem_mem hlt
    have hg := hy _ hm
    unfold hamperlaw26_SliceNames.l1
    rw [if_pos (by omega), if_pos (by omega), if_pos (by omega)]
    have hp : slice_Parse.f (rdOf ByteArray.empty y (i : Int)) = some (⟨#[]⟩, 0, 0, 0, 0, 0, 0, 4) := by
      unfold slice_Parse.f
      rw [if_pos (by omega), parse_bad hg.1]
    rw [hp, Option.bind_some, if_pos rfl, w64 (by omega) (by omega)]
    exact ih (i + 1) (by omega)

theorem shapes_loop (x : List S23) (hx : ∀ s ∈ x, shapeB s.f0 s.f1 s.f2 s.f3 = false) (hl : x.length ≤ 1000) (d r s m : Int) (K : Nat) (hK : ∀ s ∈ x, ∀ k, K ≤ k → slice_Count.f k 0 s.f0 s.f1 s.f2 s.f3 = some (countB 0 s.f0 s.f1 s.f2 s.f3)) :
    ∀ (n i : Nat), i + n = x.length → hamperlaw26_SliceNames.l0 (K + n + 1) x (x.length : Int) (i : Int) d r s m = hamperlaw26_SliceNames.l0 (K + 1) x (x.length : Int) (x.length : Int) d r s m := by
  intro n
  induction n with
  | zero =>
    intro i hi
    rw [show i = x.length by omega]
  | succ n ih =>
    intro i hi
    have hlt : i < x.length := by omega
    have hm : rd_T23 x (i : Int) ∈ x := by
      unfold rd_T23
      rw [Int.toNat_natCast, List.getD_eq_getElem?_getD, List.getElem?_eq_getElem hlt]
      exact List.getElem_mem hlt
    have hs := hx _ hm
    rw [show K + (n + 1) + 1 = (K + n + 1) + 1 by omega]
    conv => lhs; unfold hamperlaw26_SliceNames.l0
    rw [if_pos (by omega), if_pos (by omega), if_pos (by omega), hK _ hm _ (by omega), Option.bind_some]
    have hc : countB 0 (rd_T23 x (i : Int)).f0 (rd_T23 x (i : Int)).f1 (rd_T23 x (i : Int)).f2 (rd_T23 x (i : Int)).f3 = (0, 1) := by
      unfold countB
      rw [hs]
      rfl
    have hj : slice_Join.f [] (rd_T23 x (i : Int)).f0 (rd_T23 x (i : Int)).f1 (rd_T23 x (i : Int)).f2 (rd_T23 x (i : Int)).f3 = some (⟨#[]⟩, 1) := by
      unfold slice_Join.f joinB
      rw [if_pos (by decide), hs]
      rfl
    rw [hc, hj, Option.bind_some, shape_f, hs, Option.bind_some, if_neg (by decide), if_pos rfl, if_pos rfl, w64 (by omega) (by omega)]
    exact ih (i + 1) (by omega)

def badShapes : List S23 := [⟨0, 0, 0, 0⟩, ⟨65, 0, 2, 0⟩, ⟨1, 33, 2, 0⟩, ⟨1, (-1), 2, 0⟩, ⟨1, 0, 3, 0⟩, ⟨1, 0, 514, 0⟩, ⟨1, 0, 0, 0⟩, ⟨1, 0, 2, 33⟩, ⟨1, 0, 2, (-1)⟩]
def badNames : List ByteArray := [(⟨#[]⟩ : ByteArray), (⟨#[98, 111, 120]⟩ : ByteArray), (⟨#[98, 111, 120, 46]⟩ : ByteArray), (⟨#[46, 100, 50, 114, 49, 115, 52, 109, 49, 107, 50, 118, 48]⟩ : ByteArray), (⟨#[98, 111, 120, 46, 100, 50, 114, 49, 115, 52, 109, 49, 107, 50]⟩ : ByteArray), (⟨#[98, 111, 120, 46, 100, 50, 114, 49, 115, 52, 109, 49, 107, 50, 118]⟩ : ByteArray), (⟨#[98, 111, 120, 46, 100, 50, 114, 49, 115, 52, 109, 49, 107, 50, 118, 51]⟩ : ByteArray), (⟨#[98, 111, 120, 46, 100, 50, 114, 49, 115, 52, 109, 49, 107, 50, 118, 48, 120]⟩ : ByteArray), (⟨#[66, 111, 120, 46, 100, 50, 114, 49, 115, 52, 109, 49, 107, 50, 118, 48]⟩ : ByteArray), (⟨#[98, 111, 120, 46, 114, 50, 100, 49, 115, 52, 109, 49, 107, 50, 118, 48]⟩ : ByteArray), (⟨#[98, 111, 120, 46, 100, 50, 114, 49, 115, 52, 109, 49, 107, 50, 118, 48, 48]⟩ : ByteArray), (⟨#[98, 111, 120, 46, 100, 43, 50, 114, 49, 115, 52, 109, 49, 107, 50, 118, 48]⟩ : ByteArray), (⟨#[98, 46, 120, 46, 100, 50, 114, 49, 115, 52, 109, 49, 107, 50, 118, 48]⟩ : ByteArray), (⟨#[98, 111, 120, 46, 100, 50, 114, 49, 115, 52, 109, 49, 107, 50, 118, 57, 57, 57, 57, 57, 57, 57, 57, 57, 57, 57, 57, 57, 57, 57, 57, 57, 57, 57, 57]⟩ : ByteArray)]
theorem bad_shapes : ∀ s ∈ badShapes, shapeB s.f0 s.f1 s.f2 s.f3 = false := by
  intro s hs
  unfold badShapes at hs
  simp only [List.mem_cons, List.not_mem_nil, or_false] at hs
  rcases hs with rfl | rfl | rfl | rfl | rfl | rfl | rfl | rfl | rfl <;> decide +kernel
theorem bad_names : ∀ x ∈ badNames, goodC x = false ∧ x.size ≤ 1000 := by
  have h : badNames.all (fun x => !goodC x && decide (x.size ≤ 1000)) = true := by decide +kernel
  intro x hx
  have := List.all_eq_true.1 h x hx
  simpa using this

theorem pure_sliceNames : ∃ k, hamperlaw26_SliceNames.f k = some true := by
  obtain ⟨K1, h1⟩ := ev_all (fun s k => slice_Count.f k 0 s.f0 s.f1 s.f2 s.f3) (fun s => countB 0 s.f0 s.f1 s.f2 s.f3) badShapes (fun s _ => count_f 0 _ _ _ _ (by decide) (by decide))
  obtain ⟨K2, h2⟩ := count_f 2097144 64 32 512 32 (by decide) (by decide)
  obtain ⟨K3, h3⟩ := count_f 2097145 64 32 512 32 (by decide) (by decide)
  obtain ⟨K4, h4⟩ := count_f (-1) 2 1 4 1 (by decide) (by decide)
  refine ⟨(K1 + K2 + K3 + K4 + 100) + 9 + 1, ?_⟩
  have hl := shapes_loop badShapes bad_shapes (by decide) 2 1 4 1 (K1 + K2 + K3 + K4 + 100) (fun s hs k hk => h1 s hs k (by omega)) 9 0 rfl
  have hf : hamperlaw26_SliceNames.f ((K1 + K2 + K3 + K4 + 100) + 9 + 1) = hamperlaw26_SliceNames.l0 ((K1 + K2 + K3 + K4 + 100) + 9 + 1) badShapes (badShapes.length : Int) ((0 : Nat) : Int) 2 1 4 1 := rfl
  rw [hf, hl]
  unfold hamperlaw26_SliceNames.l0
  have h2' := h2 (K1 + K2 + K3 + K4 + 100) (by omega)
  have h3' := h3 (K1 + K2 + K3 + K4 + 100) (by omega)
  have h4' := h4 (K1 + K2 + K3 + K4 + 100) (by omega)
  simp only at h2' h3' h4'
  rw [if_neg (by omega), h2', Option.bind_some, h3', Option.bind_some, h4', Option.bind_some]
  have e2 : countB 2097144 64 32 512 32 = (64, 0) := by decide +kernel
  have e3 : countB 2097145 64 32 512 32 = (0, 40) := by decide +kernel
  have e4 : countB (-1) 2 1 4 1 = (0, 1) := by decide +kernel
  have e5 : slice_Join.f [] 2 1 4 1 = some (⟨#[]⟩, 4) := by kernel_rfl
  rw [e2, e3, e4, e5, Option.bind_some, Option.bind_some]
  have hn := names_loop 64 0 40 1 4 64 32 512 32 badNames bad_names (by decide) ⟨by decide +kernel, rfl, rfl, rfl, rfl, rfl⟩ 14 0 rfl
  refine at_rounds (g := fun k => hamperlaw26_SliceNames.l1 k 64 0 40 1 4 badNames (badNames.length : Int) ((0 : Nat) : Int) 64 32 512 32) (fun k => (hamperlaw26_SliceNames.mono_l k).2 _ _ _ _ _ _ _ _ _ _ _ _) (show 14 + 1 ≤ _ by omega) hn
end Go.Proofs.YtnnkenbcdepafaaDoor.H
