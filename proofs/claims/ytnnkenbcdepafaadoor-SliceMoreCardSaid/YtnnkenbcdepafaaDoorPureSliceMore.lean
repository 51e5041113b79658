/- The law SliceMore over plain words: a longer stream is cut into no fewer volumes; with more rows, or more bytes a row, into no more. -/
import Derived.Test.YtnnkenbcdepafaaDoorL6
import Derived.Test.YtnnkenbcdepafaaDoorHW
namespace Go.Proofs.YtnnkenbcdepafaaDoor.H
open Go.RowKit Go.Proofs.YtnnkenbcdepafaaDoorW.PrintWords Go.Proofs.YtnnkenbcdepafaaDoor.B Go.Proofs.YtnnkenbcdepafaaDoor.A Go.Proofs.YtnnkenbcdepafaaDoor.L
set_option linter.unusedVariables false

/-- How many there are, by one number. -/
theorem count_need {n d r s m : Int} (h : (countB n d r s m).2 = 0) : ∃ one : Int, d * s = one ∧ 2 ≤ one ∧ (countB n d r s m).1 = (n + 7 + one) / one ∧ (n + 7 + one) / one ≤ 96 - m ∧ shapeB d r s m = true ∧ 0 ≤ n := by
  obtain ⟨hs, hn, h1, h2, h3, h4⟩ := countB_ok h
  have hb := shapeB_iff.1 hs
  have hone : 2 ≤ d * s := by
    have := Int.mul_le_mul (a := 1) (b := 2) (c := d) (d := s) (by omega) (by omega) (by omega) (by omega)
    omega
  exact ⟨d * s, rfl, hone, h3, by rw [← h3]; exact h2, hs, hn⟩
theorem count_cases (n d r s m : Int) : (countB n d r s m).2 = 0 ∨ (countB n d r s m).2 = 40 ∨ (countB n d r s m).2 = 1 := by
  unfold countB
  split
  · split
    · exact .inl rfl
    · exact .inr (.inl rfl)
  · exact .inr (.inr rfl)
theorem count_one {n d r s m : Int} : (countB n d r s m).2 = 1 ↔ ¬ (shapeB d r s m = true ∧ 0 ≤ n) := by
  unfold countB
  split
  · rename_i h
    constructor
    · intro h1
      split at h1 <;> cases h1
    · intro h1
      exact absurd h h1
  · rename_i h
    exact ⟨fun _ => h, fun _ => rfl⟩
theorem count_zero {n d r s m : Int} (hs : shapeB d r s m = true) (hn : 0 ≤ n) (hk : (n + 7 + d * s) / (d * s) ≤ 96 - m) : countB n d r s m = ((n + 7 + d * s) / (d * s), 0) := by
  unfold countB
  rw [if_pos ⟨hs, hn⟩, if_pos hk]
theorem div_up {a b one : Int} (h1 : 1 ≤ one) (hab : a ≤ b) : a / one ≤ b / one := Int.ediv_le_ediv (by omega) hab
/-- A longer stream wants no fewer. -/
theorem more_stream {n n' d r s m : Int} (h : n ≤ n') (hn : 0 ≤ n) (he : (countB n d r s m).2 = 40) : (countB n' d r s m).2 = 40 := by
  have hno : ¬ (countB n d r s m).2 = 1 := by rw [he]; decide
  have hs : shapeB d r s m = true ∧ 0 ≤ n := Classical.byContradiction fun hc => hno (count_one.2 hc)
  rcases count_cases n' d r s m with h1 | h1 | h1
  · exfalso
    obtain ⟨one, ho, h2, _, h3, _, _⟩ := count_need h1
    have h4 := div_up (a := n + 7 + one) (b := n' + 7 + one) (one := one) (by omega) (by omega)
    have := count_zero (n := n) (d := d) (r := r) (s := s) (m := m) hs.1 hs.2 (by rw [ho]; omega)
    rw [this] at he
    cases he
  · exact h1
  · exfalso
    exact (count_one.1 h1) ⟨hs.1, by omega⟩
theorem more_count {n n' d r s m : Int} (h : n ≤ n') (h0 : (countB n d r s m).2 = 0) (h1 : (countB n' d r s m).2 = 0) : (countB n d r s m).1 ≤ (countB n' d r s m).1 := by
  obtain ⟨one, ho, h2, e1, _⟩ := count_need h0
  obtain ⟨one', ho', _, e2, _⟩ := count_need h1
  rw [ho] at ho'
  subst ho'
  rw [e1, e2]
  exact div_up (by omega) (by omega)
/-- Wider rows want no more: a number q for which there is room in narrow volumes has room in wide ones. -/
theorem wide_count {n one wide : Int} (h1 : 2 ≤ one) (h2 : one ≤ wide) (hn : 0 ≤ n) : (n + 7 + wide) / wide ≤ (n + 7 + one) / one := by
  have e : ∀ w : Int, 2 ≤ w → (n + 7 + w) / w = (n + 7) / w + 1 := fun w hw => by
    rw [Int.add_ediv_of_dvd_right (Int.dvd_refl w), Int.ediv_self (by omega)]
  rw [e one h1, e wide (by omega)]
  have h3 : (n + 7) / wide ≤ (n + 7) / one := by
    refine (Int.le_ediv_iff_mul_le (by omega)).2 ?_
    have h4 := Int.ediv_mul_le (n + 7) (b := wide) (by omega)
    have h5 : 0 ≤ (n + 7) / wide := Int.ediv_nonneg (by omega) (by omega)
    have h6 := Int.mul_le_mul_of_nonneg_left h2 h5
    omega
  omega

theorem pure_sliceMore (n more : Int) (d r s m : Int) (hn : -9223372036854775808 ≤ n ∧ n ≤ 9223372036854775807) (hm : -9223372036854775808 ≤ more ∧ more ≤ 9223372036854775807) : ∃ k, hamperlaw26_SliceMore.f k n more d r s m = some true := by
  have hno : Ev (fun k => hamperlaw26_SliceMore.j0 k n more true d r s m) true := by
    refine Ev.step (f := fun _ => some true) (fun k => ?_) (Ev.now true)
    show hamperlaw26_SliceMore.j0 (k + 1) n more true d r s m = _
    simp only [hamperlaw26_SliceMore.j0]
    rw [if_pos trivial, awake_true]
    rfl
  obtain ⟨k0, hk0⟩ := hno.rounds
  by_cases h1 : n < 0
  · refine ⟨k0, ?_⟩
    unfold hamperlaw26_SliceMore.f
    rw [if_pos h1]
    exact hk0
  · by_cases h2 : n > 1099511627776
    · refine ⟨k0, ?_⟩
      unfold hamperlaw26_SliceMore.f
      rw [if_neg h1, if_pos h2]
      exact hk0
    · obtain ⟨q, hq⟩ : ∃ q, wrap64 (n + (wrap64 (Int.tmod (IntKind.u64.wrap more) 100000))) = q := ⟨_, rfl⟩
      have hq1 : n ≤ q ∧ q ≤ n + 100000 := by
        have e : IntKind.u64.wrap more = more % 18446744073709551616 := rfl
        have h5 : 0 ≤ IntKind.u64.wrap more := by rw [e]; omega
        have h3 := Int.tmod_nonneg (100000 : Int) h5
        have h4 := Int.tmod_lt_of_pos (IntKind.u64.wrap more) (b := (100000 : Int)) (by decide)
        obtain ⟨z, hz⟩ : ∃ z, Int.tmod (IntKind.u64.wrap more) 100000 = z := ⟨_, rfl⟩
        rw [hz] at h3 h4 hq
        rw [w64 (x := z) (by omega) (by omega), w64 (x := n + z) (by omega) (by omega)] at hq
        omega
      have last : ∀ D1 S1 : Int, wrap64 (d + 1) = D1 → wrap64 (s + 2) = S1 → Ev (fun k => hamperlaw26_SliceMore.j1 k n (countB n d r s m).1 (countB n d r s m).2 false d r s m) true := by
        intro D1 S1 hD hS
        obtain ⟨K1, hc⟩ := count_f n D1 r S1 m (by omega) (by omega)
        refine ⟨K1 + 1, fun k hk => ?_⟩
        obtain ⟨j, rfl⟩ : ∃ j, k = j + 1 := ⟨k - 1, by omega⟩
        have hcj := hc j (by omega)
        simp only at hcj
        show hamperlaw26_SliceMore.j1 (j + 1) n (countB n d r s m).1 (countB n d r s m).2 false d r s m = _
        simp only [hamperlaw26_SliceMore.j1]
        rw [hD, hS, hcj, Option.bind_some, if_neg (by simp)]
        by_cases h0 : (countB n d r s m).2 = 0
        · rw [if_pos h0]
          obtain ⟨one, ho, h3, e1, h4, hs, hn0⟩ := count_need h0
          have hb := shapeB_iff.1 hs
          have hD' : D1 = d + 1 := by rw [← hD]; exact w64 (by omega) (by omega)
          have hS' : S1 = s + 2 := by rw [← hS]; exact w64 (by omega) (by omega)
          subst hD' hS'
          have hw : one ≤ (d + 1) * (s + 2) := by
            rw [← ho]
            have e : (d + 1) * (s + 2) = d * s + (2 * d + s + 2) := by
              rw [Int.add_mul, Int.mul_add]
              omega
            omega
          have hwc := wide_count (n := n) h3 hw hn0
          by_cases h6 : (countB n (d + 1) r (s + 2) m).2 = 0
          · rw [if_pos h6]
            obtain ⟨one', ho', _, e2, _⟩ := count_need h6
            rw [ho'] at hwc
            rw [e1, e2, decide_eq_true hwc]
          · rw [if_neg h6, shape_f, Option.bind_some]
            have hsh : shapeB (d + 1) r (s + 2) m = false := by
              cases hsw : shapeB (d + 1) r (s + 2) m with
              | false => rfl
              | true =>
                exfalso
                have := count_zero (n := n) hsw hn0 (by omega)
                rw [this] at h6
                exact h6 rfl
            rw [hsh, if_neg (by decide)]
        · rw [if_neg h0]
      obtain ⟨K1, hc1⟩ := count_f n d r s m (by omega) (by omega)
      obtain ⟨K2, hc2⟩ := count_f q d r s m (by omega) (by omega)
      obtain ⟨K3, hl⟩ := last _ _ rfl rfl
      refine ⟨K1 + K2 + K3 + 1, ?_⟩
      have a1 := hc1 (K1 + K2 + K3) (by omega)
      have a2 := hc2 (K1 + K2 + K3) (by omega)
      have a3 := hl (K1 + K2 + K3) (by omega)
      simp only at a1 a2 a3
      unfold hamperlaw26_SliceMore.f
      rw [if_neg h1, if_neg h2, awake_true, Option.bind_some]
      simp only [hamperlaw26_SliceMore.j0]
      rw [if_neg (by simp), a1, Option.bind_some, hq, a2, Option.bind_some]
      by_cases c1 : (countB n d r s m).2 = 40
      · have c2 := more_stream hq1.1 (by omega) c1
        rw [if_pos c1, if_pos c2, if_neg (by rw [c1]; decide)]
        exact a3
      · rw [if_neg c1]
        by_cases c2 : (countB n d r s m).2 = 0
        · rw [if_pos c2]
          by_cases c3 : (countB q d r s m).2 = 0
          · have c4 := more_count hq1.1 c2 c3
            rw [if_pos c3, decide_eq_false (by omega)]
            exact a3
          · rw [if_neg c3]
            exact a3
        · rw [if_neg c2]
          exact a3
end Go.Proofs.YtnnkenbcdepafaaDoor.H
