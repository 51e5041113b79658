/- The law SliceBack over plain words: Join of Cut is the stream, Cut of Join the volumes; there are just as many volumes as there must be. -/
import Derived.Test.YtnnkenbcdepafaaDoorL3
import Derived.Test.YtnnkenbcdepafaaDoorHW
import Derived.Test.YtnnkenbcdepafaaDoorHLong
import Derived.Test.YtnnkenbcdepafaaDoorHRows
namespace Go.Proofs.YtnnkenbcdepafaaDoor.H
open Go.RowKit Go.Proofs.YtnnkenbcdepafaaDoorW.PrintWords Go.Proofs.YtnnkenbcdepafaaDoor.B Go.Proofs.YtnnkenbcdepafaaDoor.A Go.Proofs.YtnnkenbcdepafaaDoor.L
set_option linter.unusedVariables false

theorem back_last (vs : List (List ByteArray)) (hv : vs.length ≤ 1000) (d r s m : Int) : Ev (fun k => hamperlaw26_SliceBack.j3 k vs false d r s m) true := by
  have hj : slice_Join.f vs d r s m = some (joinB vs d r s m) := by
    unfold slice_Join.f
    rw [if_pos (by omega)]
  by_cases hsh : shapeB d r s m = true
  · by_cases hok : joinOk vs d r s m = true
    · have hb := shapeB_iff.1 hsh
      obtain ⟨D, rfl⟩ : ∃ D : Nat, d = (D : Int) := ⟨d.toNat, by omega⟩
      obtain ⟨S, rfl⟩ : ∃ S : Nat, s = (S : Int) := ⟨s.toNat, by omega⟩
      have hc := cut_join hsh hok
      have hok' := hok
      unfold joinOk at hok'
      rw [Bool.and_eq_true, Bool.and_eq_true, Bool.and_eq_true] at hok'
      obtain ⟨⟨⟨h1, h2⟩, _⟩, _⟩ := hok'
      have hlen := bytesL_length h1
      have hDS : D * S ≤ 64 * 512 := Nat.mul_le_mul (by omega) (by omega)
      have hbl : (bytesL vs).length ≤ 1000 * (64 * 512) := by rw [hlen]; exact Nat.mul_le_mul hv hDS
      have hsl : (streamL vs).length ≤ 1000 * (64 * 512) := by
        unfold streamL
        rw [List.length_take, List.length_drop]
        omega
      have hsz : (⟨(streamL vs).toArray⟩ : ByteArray).size = (streamL vs).length := by rw [Lib.size_eq]
      have hcf : slice_Cut.f ⟨(streamL vs).toArray⟩ D r S m = some (vs, 0) := by
        unfold slice_Cut.f
        rw [if_pos (by omega), hc]
      have hrows : ∀ rows ∈ vs, rows.length ≤ 8796093022208 := fun rows hr => by
        unfold shapedB at h1
        have := List.all_eq_true.1 h1 rows hr
        rw [Bool.and_eq_true] at this
        have := of_decide_eq_true this.1
        omega
      obtain ⟨K, hK⟩ := same_f vs (by omega) hrows
      refine ⟨K + 1, fun k hk => ?_⟩
      obtain ⟨j, rfl⟩ : ∃ j, k = j + 1 := ⟨k - 1, by omega⟩
      have hKj := hK j (by omega)
      simp only at hKj
      show hamperlaw26_SliceBack.j3 (j + 1) vs false D r S m = _
      simp only [hamperlaw26_SliceBack.j3]
      have hjb : joinB vs D r S m = (⟨(streamL vs).toArray⟩, 0) := by
        unfold joinB
        rw [if_pos hsh, if_pos hok]
      rw [if_neg (by simp), hj, Option.bind_some, hjb, if_pos rfl, hcf, Option.bind_some, if_pos rfl, hKj]
      rfl
    · refine Ev.step (f := fun _ => some true) (fun k => ?_) (Ev.now _)
      show hamperlaw26_SliceBack.j3 (k + 1) vs false d r s m = _
      simp only [hamperlaw26_SliceBack.j3]
      have hjb : joinB vs d r s m = (⟨#[]⟩, 4) := by
        unfold joinB
        rw [if_pos hsh, if_neg hok]
      have e : (⟨#[]⟩ : ByteArray).toList = [] := by rw [Lib.toList_data]
      rw [if_neg (by simp), hj, Option.bind_some, hjb, if_neg (by decide), e]
      rfl
  · refine Ev.step (f := fun _ => some true) (fun k => ?_) (Ev.now _)
    show hamperlaw26_SliceBack.j3 (k + 1) vs false d r s m = _
    simp only [hamperlaw26_SliceBack.j3]
    have hjb : joinB vs d r s m = (⟨#[]⟩, 1) := by
      unfold joinB
      rw [if_neg hsh]
    have e : (⟨#[]⟩ : ByteArray).toList = [] := by rw [Lib.toList_data]
    rw [if_neg (by simp), hj, Option.bind_some, hjb, if_neg (by decide), e]
    rfl

theorem not_less {T z : Nat} (h : 8 + z ≤ T) : ¬ ((T : Int) < (z : Int) + 8) := by omega
theorem not_more {T z : Nat} (h : T < z + 8) : ¬ ((T : Int) ≥ (z : Int) + 8) := by omega
theorem less_room {Q one z : Nat} (hone : 1 ≤ one) (hq : ((Q + 1 : Nat) : Int) = ((z : Int) + 7 + (one : Int)) / (one : Int)) : Q * one < z + 8 := by
  have h7 := Int.mul_ediv_add_emod ((z : Int) + 7 + one) one
  have h8 := Int.emod_nonneg ((z : Int) + 7 + one) (b := one) (by omega)
  rw [← hq] at h7
  have h9 : (one : Int) * ((Q + 1 : Nat) : Int) = ((Q * one : Nat) : Int) + one := by
    rw [Int.natCast_add, Int.mul_add, Int.natCast_mul, Int.mul_comm]
    simp
  rw [h9] at h7
  generalize Q * one = X at *
  omega

theorem back_end (a : ByteArray) (vs : List (List ByteArray)) (hv : vs.length ≤ 1000) (K D S : Nat) (r m : Int) (ha : a.size ≤ 3000) (hsh : shapeB D r S m = true) (hc : countB a.size D r S m = ((K : Int), 0)) (hK1 : 1 ≤ K) (hK : K ≤ 96) :
    8 + a.size ≤ K * D * S → Ev (fun k => hamperlaw26_SliceBack.l0 k a vs (volsTo (allL a.data.toList (K * D * S)) D S K) (K : Int) D r S m) true := by
  intro hT
  have hb := shapeB_iff.1 hsh
  have hvl := volsTo_length (allL a.data.toList (K * D * S)) D S K
  have h3 : K * D ≤ 96 * 64 := Nat.mul_le_mul (by omega) (by omega)
  have h4 : K * D * S ≤ 96 * 64 * 512 := Nat.mul_le_mul h3 (by omega)
  have hjc := join_cut (a := a) (r := r) (m := m) (D := D) (S := S) (K := K) (by omega) hsh hc hT
  have hj : slice_Join.f (volsTo (allL a.data.toList (K * D * S)) D S K) D r S m = some (a, 0) := by
    unfold slice_Join.f
    rw [if_pos (by rw [hvl]; omega), hjc]
  obtain ⟨K1, hK1'⟩ := count_f (a.size : Int) D r S m (by omega) (by omega)
  obtain ⟨K2, hK2⟩ := back_last vs hv D r S m
  refine ⟨K1 + K2 + 1, fun k hk => ?_⟩
  obtain ⟨j, rfl⟩ : ∃ j, k = j + 1 := ⟨k - 1, by omega⟩
  have hcj := hK1' j (by omega)
  have hlj := hK2 j (by omega)
  simp only at hcj hlj
  show hamperlaw26_SliceBack.l0 (j + 1) a vs (volsTo (allL a.data.toList (K * D * S)) D S K) (K : Int) D r S m = _
  unfold hamperlaw26_SliceBack.l0
  have w1 : wrap64 ((K : Int) * (D : Int)) = ((K * D : Nat) : Int) := by rw [← Int.natCast_mul]; exact w64 (by omega) (by omega)
  have w2 : wrap64 (((K * D : Nat) : Int) * (S : Int)) = ((K * D * S : Nat) : Int) := by rw [← Int.natCast_mul]; exact w64 (by omega) (by omega)
  have w3 : wrap64 ((a.size : Int) + 8) = (a.size : Int) + 8 := w64 (by omega) (by omega)
  rw [hvl, if_neg (by omega), hcj, Option.bind_some, hj, Option.bind_some, hc, if_pos rfl, if_pos rfl, if_pos rfl, if_pos rfl, w1, w2, w3, if_neg (not_less hT)]
  by_cases hK2' : (K : Int) > 1
  · rw [if_pos hK2']
    obtain ⟨Q, rfl⟩ : ∃ Q : Nat, K = Q + 1 := ⟨K - 1, by omega⟩
    have h5 : Q * D ≤ 96 * 64 := Nat.mul_le_mul (by omega) (by omega)
    have h6 : Q * D * S ≤ 96 * 64 * 512 := Nat.mul_le_mul h5 (by omega)
    have w4 : wrap64 (((Q + 1 : Nat) : Int) - 1) = (Q : Int) := by rw [w64 (by omega) (by omega)]; omega
    have w5 : wrap64 ((Q : Int) * (D : Int)) = ((Q * D : Nat) : Int) := by rw [← Int.natCast_mul]; exact w64 (by omega) (by omega)
    have w6 : wrap64 (((Q * D : Nat) : Int) * (S : Int)) = ((Q * D * S : Nat) : Int) := by rw [← Int.natCast_mul]; exact w64 (by omega) (by omega)
    have hless : Q * D * S < a.size + 8 := by
      have hq : (countB a.size D r S m).1 = ((a.size : Int) + 7 + D * S) / (D * S) := (countB_ok (by rw [hc])).2.2.2.2.1
      rw [hc] at hq
      simp only at hq
      have hone : 1 ≤ D * S := Nat.mul_pos (by omega) (by omega)
      rw [← Int.natCast_mul] at hq
      rw [Nat.mul_assoc]
      exact less_room hone hq
    rw [w4, w5, w6, decide_eq_false (not_more hless)]
    exact hlj
  · rw [if_neg hK2']
    exact hlj

theorem back_rows (a : ByteArray) (vs : List (List ByteArray)) (K D S : Nat) (r m : Int) (hT : 8 + a.size ≤ K * D * S) (hK : K ≤ 96) (hD : D ≤ 64)
    (hend : Ev (fun k => hamperlaw26_SliceBack.l0 k a vs (volsTo (allL a.data.toList (K * D * S)) D S K) (K : Int) D r S m) true) :
    ∀ (n v : Nat), v + n = K → Ev (fun k => hamperlaw26_SliceBack.l0 k a vs (volsTo (allL a.data.toList (K * D * S)) D S K) (v : Int) D r S m) true := by
  have hl : (allL a.data.toList (K * D * S)).length = K * D * S := allL_length _ _ (by rw [← Lib.size_eq]; exact hT)
  have hvl := volsTo_length (allL a.data.toList (K * D * S)) D S K
  intro n
  induction n with
  | zero =>
    intro v hv
    obtain rfl : v = K := by omega
    exact hend
  | succ n ih =>
    intro v hv
    have hvK : v < K := by omega
    have hrows : ∀ (p i : Nat), i + p = D → Ev (fun k => hamperlaw26_SliceBack.l1 k a vs (volsTo (allL a.data.toList (K * D * S)) D S K) (v : Int) (i : Int) D r S m) true := by
      intro p
      induction p with
      | zero =>
        intro i hi
        refine Ev.step (fun k => ?_) (ih (v + 1) (by omega))
        show hamperlaw26_SliceBack.l1 (k + 1) a vs _ (v : Int) (i : Int) D r S m = _
        conv => lhs; unfold hamperlaw26_SliceBack.l1
        rw [if_pos (by omega), if_pos (by rw [hvl]; omega), rd_vols _ _ _ _ _ hvK, volTo_length, if_neg (by omega), w64 (by omega) (by omega)]
        rfl
      | succ p ihp =>
        intro i hi
        have hil : i < D := by omega
        have hroom := row_room (s := S) hvK hil
        refine Ev.step (fun k => ?_) (ihp (i + 1) (by omega))
        show hamperlaw26_SliceBack.l1 (k + 1) a vs _ (v : Int) (i : Int) D r S m = _
        conv => lhs; unfold hamperlaw26_SliceBack.l1
        rw [if_pos (by omega), if_pos (by rw [hvl]; omega), rd_vols _ _ _ _ _ hvK, volTo_length, if_pos (by omega), if_pos (by omega), rd_row _ _ _ _ _ hil, rowL_size _ _ _ (by rw [hl, Nat.add_mul, Nat.one_mul]; omega), if_pos rfl, w64 (by omega) (by omega)]
        rfl
    refine Ev.step (fun k => ?_) (hrows D 0 (by omega))
    show hamperlaw26_SliceBack.l0 (k + 1) a vs _ (v : Int) D r S m = _
    conv => lhs; unfold hamperlaw26_SliceBack.l0
    rw [if_pos (by rw [hvl]; omega), if_pos (by omega), rd_vols _ _ _ _ _ hvK, volTo_length, if_pos rfl]
    rfl

theorem pure_sliceBack (a : ByteArray) (d r s m : Int) (vs : List (List ByteArray)) (hvs : vs.length ≤ 8796093022208) : ∃ k, hamperlaw26_SliceBack.f k a d r s m vs = some true := by
  have hno : Ev (fun k => hamperlaw26_SliceBack.j0 k a vs true d r s m) true := by
    refine Ev.step (f := fun _ => some true) (fun k => ?_) (Ev.now true)
    show hamperlaw26_SliceBack.j0 (k + 1) a vs true d r s m = _
    simp only [hamperlaw26_SliceBack.j0]
    rw [if_pos trivial, awake_true]
    rfl
  by_cases h1 : (a.size : Int) > 3000
  · obtain ⟨k, hk⟩ := hno.rounds
    refine ⟨k, ?_⟩
    unfold hamperlaw26_SliceBack.f
    rw [if_pos h1]
    exact hk
  · obtain ⟨b, ⟨K0, hb⟩, hf⟩ := long_f vs hvs
    cases b with
    | true =>
      obtain ⟨K1, hk⟩ := hno
      refine ⟨K0 + K1, ?_⟩
      have h2 := hb (K0 + K1) (by omega)
      have h3 := hk (K0 + K1) (by omega)
      simp only at h2 h3
      unfold hamperlaw26_SliceBack.f
      rw [if_neg h1, h2, Option.bind_some, if_pos rfl, h3]
    | false =>
      have hv := hf rfl
      have hyes : Ev (fun k => hamperlaw26_SliceBack.j0 k a vs false d r s m) true := by
        have hc : slice_Cut.f a d r s m = some (cutB a d r s m) := by
          unfold slice_Cut.f
          rw [if_pos (by omega)]
        by_cases h2 : (countB a.size d r s m).2 = 0
        · obtain ⟨hsh, hn, hk1, hk2, _, hroom⟩ := countB_ok h2
          have hbs := shapeB_iff.1 hsh
          obtain ⟨D, rfl⟩ : ∃ D : Nat, d = (D : Int) := ⟨d.toNat, by omega⟩
          obtain ⟨S, rfl⟩ : ∃ S : Nat, s = (S : Int) := ⟨s.toNat, by omega⟩
          obtain ⟨K, hK⟩ : ∃ K : Nat, (countB a.size D r S m).1 = (K : Int) := ⟨((countB a.size D r S m).1).toNat, by omega⟩
          rw [hK] at hk1 hk2 hroom
          have hT : ((K * D * S : Nat) : Int) = (K : Int) * ((D : Int) * (S : Int)) := by rw [Int.natCast_mul, Int.natCast_mul, Int.mul_assoc]
          have hcut : cutB a D r S m = (volsTo (allL a.data.toList (K * D * S)) D S K, 0) := by
            unfold cutB
            rw [if_pos h2, hK]
            simp only [Int.toNat_natCast]
          have hcc : countB a.size D r S m = ((K : Int), 0) := by rw [← hK, ← h2]
          have hT8 : 8 + a.size ≤ K * D * S := by omega
          refine Ev.step (fun k => ?_) (back_rows a vs K D S r m hT8 (by omega) (by omega) (back_end a vs hv K D S r m (by omega) hsh hcc (by omega) (by omega) hT8) K 0 (by omega))
          show hamperlaw26_SliceBack.j0 (k + 1) a vs false D r S m = _
          simp only [hamperlaw26_SliceBack.j0]
          rw [if_neg (by simp), hc, Option.bind_some, hcut, if_pos rfl]
          rfl
        · refine Ev.step (f := fun _ => some true) (fun k => ?_) (Ev.now true)
          show hamperlaw26_SliceBack.j0 (k + 1) a vs false d r s m = _
          simp only [hamperlaw26_SliceBack.j0]
          have hcut : cutB a d r s m = ([], (countB a.size d r s m).2) := by
            unfold cutB
            rw [if_neg h2]
          have e0 : ((([] : List (List ByteArray)).length : Nat) : Int) = 0 := rfl
          rw [if_neg (by simp), hc, Option.bind_some, hcut, if_neg h2, if_pos e0, shape_f, Option.bind_some]
          have : ((countB a.size d r s m).2 == 1) = !shapeB d r s m := by
            unfold countB at h2 ⊢
            cases hs : shapeB d r s m with
            | false => simp [hs]
            | true =>
              rw [if_pos ⟨hs ▸ rfl, by omega⟩] at h2 ⊢
              split at h2
              · exact absurd rfl h2
              · rename_i hk
                rw [if_neg hk]
                rfl
          rw [this]
          cases shapeB d r s m <;> rfl
      obtain ⟨K1, hk⟩ := hyes
      refine ⟨K0 + K1, ?_⟩
      have h2 := hb (K0 + K1) (by omega)
      have h3 := hk (K0 + K1) (by omega)
      simp only at h2 h3
      unfold hamperlaw26_SliceBack.f
      rw [if_neg h1, h2, Option.bind_some, if_neg (by decide), awake_true]
      exact h3
end Go.Proofs.YtnnkenbcdepafaaDoor.H
