/- Volumes among the arguments, opened: a list of lists of strings; and how many there are at most. -/
import Derived.Test.YtnnkenbcdepafaaDoorHRow
import Derived.Test.YtnnkenbcdepafaaDoorWWords
import Derived.Deep.Slices
import Derived.SliceStrings
import Derived.SizedLaws
namespace Go.Proofs.YtnnkenbcdepafaaDoor.H
open Go.ChangeShapes Go.WideShapes Go.ChangeAt Go.RowKit Go.Proofs.YtnnkenbcdepafaaDoorW.PrintWords
set_option linter.unusedVariables false
set_option maxRecDepth 100000

theorem cells_rows : Tryd.prog.cellsOf 39 = 1 := by kernel_rfl
theorem bytes_rows24 : Tryd.prog.bytesOf 39 = 24 := by kernel_rfl

theorem rows_read {H : Type} {enc : TypeId × Value → H} {W : World} {base fuel : Nat} {sp : Nat → Bool} {cs : List Value} {x : DataW H × List MemPlace}
    (h : DataW.trod enc Tryd.prog W base sp true fuel 39 cs = some x) : ∃ (A : Option Addr) (c : Nat) (xs : List ByteArray), cs = [.slice A xs.length c] ∧ xs.length ≤ c ∧ Kd.string.C W A xs.length xs := by
  rcases open_strings Tryd.underlying39 Tryd.underlying9 cells_str h with ⟨rfl, _⟩ | ⟨a, len, cap, ss, rfl, _, hl, hm, hss, _, hcell, _⟩
  · exact ⟨none, 0, [], rfl, Nat.le_refl _, Kd.C_nil _ _⟩
  · have hlen : (ss.take len).length = len := by
      rw [List.length_take, hss]
      split <;> omega
    have hle : len ≤ ss.length := by
      rw [hss]
      split <;> omega
    refine ⟨some a, cap, ss.take len, by rw [hlen], by rw [hlen]; exact hl, ?_⟩
    refine ⟨rfl, by rw [hlen]; exact Nat.le_trans hl hm, fun _ => ⟨a, rfl, fun j p hj => ⟨[.string p], rfl, rfl, fun i u hu => ?_⟩⟩⟩
    have hj' : j < len := by
      have := (List.getElem?_eq_some_iff.1 hj).1
      omega
    cases i with
    | zero =>
      simp at hu
      subst hu
      have hc := hcell j (by omega)
      have hp : ss.getD j ByteArray.empty = p := by
        rw [List.getElem?_take_of_lt hj'] at hj
        rw [List.getD_eq_getElem?_getD, hj]
        rfl
      rw [hp] at hc
      show W.cell? (a.add (j * 1 + 0)) = _
      rw [Nat.mul_one, Nat.add_zero]
      exact hc
    | succ i => simp at hu

theorem vols_read {W : World} {a : Addr} {len : Nat} (h : ∀ i, i < len → ∃ (A : Option Addr) (c : Nat) (xs : List ByteArray), W.cell? (a.add i) = some (.slice A xs.length c) ∧ xs.length ≤ c ∧ Kd.string.C W A xs.length xs) :
    ∃ l : List (List ByteArray), l.length = len ∧ ∀ j p, l[j]? = some p → ∃ (A : Option Addr) (c : Nat), W.cell? (a.add j) = some (.slice A p.length c) ∧ p.length ≤ c ∧ Kd.string.C W A p.length p := by
  have step : ∀ n, n ≤ len → ∃ l : List (List ByteArray), l.length = n ∧ ∀ j p, l[j]? = some p → ∃ (A : Option Addr) (c : Nat), W.cell? (a.add j) = some (.slice A p.length c) ∧ p.length ≤ c ∧ Kd.string.C W A p.length p := by
    intro n
    induction n with
    | zero => intro _; exact ⟨[], rfl, fun j p hp => by simp at hp⟩
    | succ n ih =>
      intro hn
      obtain ⟨l, hl, hr⟩ := ih (by omega)
      obtain ⟨A, c, xs, h1, h2, h3⟩ := h n (by omega)
      refine ⟨l ++ [xs], by rw [List.length_append, hl]; rfl, fun j p hp => ?_⟩
      by_cases hj : j < n
      · rw [List.getElem?_append_left (by omega)] at hp
        exact hr j p hp
      · have hj2 : j = n := by
          have := (List.getElem?_eq_some_iff.1 hp).1
          rw [List.length_append, hl] at this
          simp at this
          omega
        subst hj2
        rw [List.getElem?_append_right (by omega), hl, Nat.sub_self] at hp
        simp at hp
        subst hp
        exact ⟨A, c, h1, h2, h3⟩
  exact step len (Nat.le_refl _)

theorem open_vols {H : Type} {enc : TypeId × Value → H} {W : World} {base b0 : Nat} {r0 : Reach} {sp : Nat → Bool} {v : Value} {dd : DataW H} {p : List MemPlace} {ts : List TypeId} {ds : List (DataW H)} {j : Nat}
    (hsz : (DataW.weightsEach Tryd.prog ts ds).all (· ≤ reachBytes) = true) (ht : ts[j]? = some 24) (hd : ds[j]? = some dd)
    (hv : Value.okWide Tryd.prog W r0 b0 24 v) (h : DataW.Trod enc Tryd.prog W base sp true 24 v dd p) :
    ∃ (A : Option Addr) (c : Nat) (l : List (List ByteArray)), v = .slice A l.length c ∧ Kd.C (Kd.slice 9 Kd.string) W A l.length l ∧ l.length ≤ c ∧ l.length ≤ 8796093022208 := by
  obtain ⟨a, len, cap, rfl⟩ := okWide_slice Tryd.underlying24 hv
  obtain ⟨fuel, hf⟩ := h
  rcases Go.Deep.open_slice Tryd.underlying24 hf with ⟨hcs, _⟩ | ⟨x, len', cap', m, n, D, Pl, hcs, _, hl, hm, hmm, hx, hel⟩
  · simp [Value.cells] at hcs
    obtain ⟨rfl, rfl, rfl⟩ := hcs
    exact ⟨none, 0, [], rfl, Kd.C_nil _ _, Nat.le_refl _, by simp⟩
  · simp [Value.cells] at hcs
    obtain ⟨rfl, rfl, rfl⟩ := hcs
    have hlm : len ≤ m := by rw [hmm]; split <;> omega
    obtain ⟨l, hll, hlr⟩ := vols_read (W := W) (a := x) (len := len) (fun i hi => by
      obtain ⟨cs', hc1, hc2⟩ := hel i (by omega)
      rw [cells_rows, Nat.mul_one] at hc1
      obtain ⟨A, c, xs, rfl, h1, h2⟩ := rows_read hc2
      exact ⟨A, c, xs, cell_of_cells?_one hc1, h1, h2⟩)
    have hdd : dd = .slice ((List.range len).map D) ((List.range (m - len)).map fun j => D (len + j)) := congrArg Prod.fst hx
    have z := sized_slice hsz ht (show ds[j]? = some (DataW.slice _ _) by rw [hd, hdd]) Tryd.underlying24
    rw [bytes_rows24] at z
    have z2 : len * 24 ≤ 140737488351232 := by
      have : reachBytes = 140737488351232 := by decide
      rw [this] at z
      rw [List.length_map, List.length_range] at z
      omega
    subst hll
    refine ⟨some x, cap, l, rfl, ⟨rfl, by omega, fun _ => ⟨x, rfl, fun j p hj => ?_⟩⟩, hl, by omega⟩
    obtain ⟨A, c, h1, h2, h3⟩ := hlr j p hj
    refine ⟨[.slice A p.length c], rfl, ⟨A, c, rfl, h2, h3⟩, fun i u hu => ?_⟩
    cases i with
    | zero =>
      simp at hu
      subst hu
      show W.cell? (x.add (j * 1 + 0)) = _
      rw [Nat.mul_one, Nat.add_zero]
      exact h1
    | succ i => simp at hu
end Go.Proofs.YtnnkenbcdepafaaDoor.H
