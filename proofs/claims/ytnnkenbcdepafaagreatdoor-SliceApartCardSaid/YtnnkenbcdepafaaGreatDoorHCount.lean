/- Count, the program's, is countB. Plain: over the printed functions, no walk. -/
import Derived.Test.YtnnkenbcdepafaaGreatDoorB
import Derived.Test.YtnnkenbcdepafaaGreatDoorHCS
import Derived.Test.YtnnkenbcdepafaaGreatDoorHPlace
namespace Go.Proofs.YtnnkenbcdepafaaGreatDoor.H
open Go.RowKit Go.Proofs.YtnnkenbcdepafaaGreatDoorW.PrintWords Go.Proofs.YtnnkenbcdepafaaGreatDoorW.PrintLast Go.Proofs.YtnnkenbcdepafaaGreatDoorW.PrintMore Go.Proofs.YtnnkenbcdepafaaGreatDoor.B
set_option linter.unusedVariables false

theorem w64 {x : Int} (h0 : -9223372036854775808 ≤ x) (h1 : x ≤ 9223372036854775807) : wrap64 x = x := by
  unfold wrap64
  omega

/-- One volume's bytes, where the shape may be. -/
theorem one_bounds {d r s m : Int} (h : shapeB d r s m = true) : 2 ≤ d * s ∧ d * s ≤ 32768 := by
  have hs := shapeB_iff.1 h
  have h1 := Int.mul_le_mul (a := 1) (b := 2) (c := d) (d := s) (by omega) (by omega) (by omega) (by omega)
  have h2 := Int.mul_le_mul (a := d) (b := s) (c := 64) (d := 512) (by omega) (by omega) (by omega) (by omega)
  omega
/-- Which numbers of volumes have room. -/
theorem room_iff {n one k : Int} (h : 2 ≤ one) : k < (n + 7 + one) / one ↔ k * one < n + 8 := by
  have e : (n + 7 + one) / one = (n + 7) / one + 1 := by
    rw [show n + 7 + one = n + 7 + 1 * one by omega, Int.add_mul_ediv_right _ _ (by omega)]
  rw [e]
  constructor
  · intro hk
    have : k * one ≤ n + 7 := (Int.le_ediv_iff_mul_le (by omega)).1 (by omega)
    omega
  · intro hk
    have : k ≤ (n + 7) / one := (Int.le_ediv_iff_mul_le (by omega)).2 (by omega)
    omega

theorem count_loop (n one m d r s : Int) (hn0 : 0 ≤ n) (hn1 : n ≤ 9223372036854775807) (ho0 : 2 ≤ one) (ho1 : one ≤ 32768) (hm0 : 0 ≤ m) (hm1 : m ≤ 32) (K : Int) (hK : K = (n + 7 + one) / one) (hK1 : K ≤ 120) (c : Nat) :
    ∀ kk : Int, 0 ≤ kk → kk ≤ K → K - kk = c → ∀ q, c < q → slice_Count.l0 q n one kk d r s m = some (if K ≤ 96 - m then (K, 0) else (0, 40)) := by
  have room : ∀ k, k < K ↔ k * one < n + 8 := fun k => by rw [hK]; exact room_iff ho0
  induction c with
  | zero =>
    intro kk h0 h1 h2 q hq
    obtain ⟨q, rfl⟩ : ∃ p, q = p + 1 := ⟨q - 1, by omega⟩
    have hk : ¬ kk * one < n + 8 := fun h => by have := (room kk).2 h; omega
    have hb : kk * one ≤ 120 * 32768 := Int.mul_le_mul (by omega) (by omega) (by omega) (by omega)
    have hb0 : 0 ≤ kk * one := Int.mul_nonneg (by omega) (by omega)
    simp only [slice_Count.l0]
    rw [w64 (x := kk * one) (by omega) (by omega), w64 (x := kk * one - 8) (by omega) (by omega), w64 (x := 96 - m) (by omega) (by omega), if_neg (by omega), if_neg (by omega)]
    obtain rfl : K = kk := by omega
    by_cases h : K ≤ 96 - m
    · rw [if_neg (by omega), if_pos h]
    · rw [if_pos (by omega), if_neg h]
  | succ c ih =>
    intro kk h0 h1 h2 q hq
    obtain ⟨q, rfl⟩ : ∃ p, q = p + 1 := ⟨q - 1, by omega⟩
    have hk : kk * one < n + 8 := (room kk).1 (by omega)
    have hb : kk * one ≤ 120 * 32768 := Int.mul_le_mul (by omega) (by omega) (by omega) (by omega)
    have hb0 : 0 ≤ kk * one := Int.mul_nonneg (by omega) (by omega)
    have hi := ih (kk + 1) (by omega) (by omega) (by omega) q (by omega)
    simp only [slice_Count.l0]
    rw [w64 (x := kk * one) (by omega) (by omega), w64 (x := kk * one - 8) (by omega) (by omega), w64 (x := kk + 1) (by omega) (by omega)]
    by_cases h8 : kk * one < 8
    · rw [if_pos h8, hi]
    · rw [if_neg h8, if_pos (by omega), hi]

theorem count_f (n d r s m : Int) (hn0 : -9223372036854775808 ≤ n) (hn1 : n ≤ 9223372036854775807) : Ev (fun k => slice_Count.f k n d r s m) (countB n d r s m) := by
  refine ⟨200, fun k hk => ?_⟩
  obtain ⟨k, rfl⟩ : ∃ p, k = p + 1 := ⟨k - 1, by omega⟩
  show slice_Count.f (k + 1) n d r s m = _
  unfold slice_Count.f
  rw [shape_f, Option.bind_some]
  by_cases hs : shapeB d r s m = true
  · rw [if_pos hs]
    by_cases hn : n < 0
    · unfold countB
      rw [if_neg (by omega)]
      simp only [slice_Count.j0]
      rw [decide_eq_true hn, if_pos rfl]
    · have hsh := shapeB_iff.1 hs
      obtain ⟨ho0, ho1⟩ := one_bounds hs
      obtain ⟨one, hone⟩ : ∃ one, d * s = one := ⟨_, rfl⟩
      unfold countB
      rw [if_pos ⟨hs, by omega⟩]
      simp only [slice_Count.j0]
      rw [hone] at ho0 ho1 ⊢
      have hk0 : Int.tdiv n one = n / one := Int.tdiv_eq_ediv_of_nonneg (by omega)
      have hq0 : 0 ≤ n / one := Int.ediv_nonneg (by omega) (by omega)
      have hq1 : n / one ≤ n := Int.ediv_le_self _ (by omega)
      rw [decide_eq_false hn, if_neg (by decide), w64 (x := one) (by omega) (by omega), if_neg (by omega), hk0, w64 (x := n / one) (by omega) (by omega)]
      obtain ⟨K, hK⟩ : ∃ K, K = (n + 7 + one) / one := ⟨_, rfl⟩
      have room : ∀ k, k < K ↔ k * one < n + 8 := fun k => by rw [hK]; exact room_iff ho0
      have hkK : n / one ≤ K := by
        have : n / one * one ≤ n := Int.ediv_mul_le _ (by omega)
        have := (room (n / one)).2 (by omega)
        omega
      have hK4 : K ≤ n / one + 10 := by
        have e1 := Int.mul_ediv_add_emod n one
        have e2 := Int.emod_lt_of_pos n (b := one) (by omega)
        rcases Int.lt_or_le (n / one + 10) K with h | h
        · have h1 := (room (n / one + 10)).1 h
          rw [Int.add_mul, Int.mul_comm] at h1
          omega
        · exact h
      rw [← hK]
      by_cases h96 : n / one > 96
      · rw [if_pos h96, if_neg (by omega)]
      · rw [if_neg h96]
        exact count_loop n one m d r s (by omega) hn1 ho0 ho1 (by omega) (by omega) K hK (by omega) (K - n / one).toNat (n / one) hq0 hkK (by omega) k (by omega)
  · rw [if_neg hs]
    unfold countB
    rw [if_neg (fun h => hs h.1)]
    simp only [slice_Count.j0]
    exact if_pos trivial

end Go.Proofs.YtnnkenbcdepafaaGreatDoor.H
