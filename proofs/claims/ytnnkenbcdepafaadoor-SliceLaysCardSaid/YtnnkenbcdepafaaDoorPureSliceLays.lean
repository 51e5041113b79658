/- The law SliceLays over plain words: the rows of a stream, one behind the other, are its length, the stream, and noughts. -/
import Derived.Test.YtnnkenbcdepafaaDoorL5
import Derived.Test.YtnnkenbcdepafaaDoorHW
import Derived.Test.YtnnkenbcdepafaaDoorHRows
namespace Go.Proofs.YtnnkenbcdepafaaDoor.H
open Go.RowKit Go.Proofs.YtnnkenbcdepafaaDoorW.PrintWords Go.Proofs.YtnnkenbcdepafaaDoor.B Go.Proofs.YtnnkenbcdepafaaDoor.A Go.Proofs.YtnnkenbcdepafaaDoor.L
set_option linter.unusedVariables false

theorem take_row (all : List UInt8) (S q : Nat) : all.take (q * S) ++ (rowL all S q).data.toList = all.take ((q + 1) * S) := by
  unfold rowL
  rw [Nat.add_mul, Nat.one_mul, List.take_add]
theorem row_size (all : List UInt8) (S q : Nat) (h : (q + 1) * S ≤ all.length) : (rowL all S q).size = S := by
  unfold rowL
  rw [Lib.size_eq]
  simp only [List.length_take, List.length_drop]
  rw [Nat.add_mul] at h
  omega
theorem bt_list (x : ByteArray) (L : List UInt8) (h : x.data.toList = L) (j : Nat) (hj : j < L.length) : bt x (j : Int) = ((L.getD j 0).toNat : Int) := by
  have hs : j < x.size := by rw [Lib.size_eq, h]; exact hj
  unfold bt
  rw [dif_pos (by simpa using hs)]
  simp only [Int.toNat_natCast]
  congr 2
  subst h
  rw [List.getD_eq_getElem?_getD, Array.getElem?_toList]
  have : x.data[j]? = some (x[j]'hs) := Array.getElem?_eq_getElem hs
  rw [this]
  rfl
theorem eight_get (n : Nat) (hn : n ≤ 3000) : (eightL n).map (fun c => c.toNat) = [0, 0, 0, 0, 0, 0, n / 256, n % 256] := by
  unfold eightL
  have e : ∀ p : Nat, 16777216 ≤ p → n / p = 0 := fun p hp => Nat.div_eq_of_lt (by omega)
  rw [e _ (by decide), e _ (by decide), e _ (by decide), e _ (by decide), e _ (by decide), Nat.div_eq_of_lt (show n < 65536 by omega)]
  simp [UInt8.toNat_ofNat']
  omega

/-- What is walked of the bytes: their length, the stream, noughts. -/
theorem lays_end (a : ByteArray) (x : ByteArray) (T : Nat) (ha : a.size ≤ 3000) (hT : 8 + a.size ≤ T) (hT2 : T ≤ 3145728) (hx : x.data.toList = allL a.data.toList T) :
    Ev (fun k => hamperlaw26_SliceLays.j3 k a x false) true := by
  have hl : (allL a.data.toList T).length = T := allL_length _ _ (by rw [← Lib.size_eq]; exact hT)
  have hxs : x.size = T := by rw [Lib.size_eq, hx, hl]
  have hg : ∀ j : Nat, j < T → bt x (j : Int) = (((allL a.data.toList T).getD j 0).toNat : Int) := fun j hj => bt_list x _ hx j (by omega)
  have h8 : ∀ j : Nat, j < 8 → (allL a.data.toList T).getD j 0 = (eightL a.size).getD j 0 := fun j hj => by
    unfold allL
    rw [← Lib.size_eq, List.append_assoc, List.getD_eq_getElem?_getD, List.getD_eq_getElem?_getD, List.getElem?_append_left (by rw [eightL_length]; exact hj)]
  have he := eight_get a.size ha
  have hz : ∀ j : Nat, 8 + a.size ≤ j → j < T → (allL a.data.toList T).getD j 0 = 0 := fun j h1 h2 => by
    unfold allL
    rw [List.getD_eq_getElem?_getD, List.getElem?_append_right (by rw [List.length_append, eightL_length, ← Lib.size_eq]; exact h1), List.getElem?_replicate]
    split <;> rfl
  have h3 : ∀ (n j : Nat), j + n = T → 8 + a.size ≤ j → Ev (fun k => hamperlaw26_SliceLays.l3 k a x (a.size : Int) (j : Int)) true := by
    intro n
    induction n with
    | zero =>
      intro j hj h1
      refine Ev.step (f := fun _ => some true) (fun k => ?_) (Ev.now true)
      show hamperlaw26_SliceLays.l3 (k + 1) a x (a.size : Int) (j : Int) = _
      unfold hamperlaw26_SliceLays.l3
      rw [if_neg (by omega)]
      simp
    | succ n ih =>
      intro j hj h1
      refine Ev.step (fun k => ?_) (ih (j + 1) (by omega) (by omega))
      show hamperlaw26_SliceLays.l3 (k + 1) a x (a.size : Int) (j : Int) = _
      conv => lhs; unfold hamperlaw26_SliceLays.l3
      rw [if_pos (by omega), if_pos (by omega), if_pos (by rw [hg j (by omega), hz j h1 (by omega)]; rfl), w64 (by omega) (by omega)]
      rfl
  have hb : ∀ j : Nat, j < 8 → bt x (j : Int) = ((([0, 0, 0, 0, 0, 0, a.size / 256, a.size % 256] : List Nat).getD j 0 : Nat) : Int) := fun j hj => by
    rw [hg j (by omega), h8 j hj, ← he]
    congr 1
    rw [List.getD_eq_getElem?_getD, List.getD_eq_getElem?_getD, List.getElem?_map, List.getElem?_eq_getElem (by rw [eightL_length]; exact hj)]
    rfl
  have step : ∀ (j : Nat) (u v : Int), j < 8 → v = u * 256 + bt x (j : Int) → 0 ≤ u → u ≤ 3000 → 0 ≤ v → v ≤ 1000000 → Ev (fun k => hamperlaw26_SliceLays.l2 k a x v ((j + 1 : Nat) : Int)) true → Ev (fun k => hamperlaw26_SliceLays.l2 k a x u (j : Int)) true := by
    intro j u v hj hv h1 h2 h4 h5 hev
    refine Ev.step (fun k => ?_) hev
    show hamperlaw26_SliceLays.l2 (k + 1) a x u (j : Int) = _
    conv => lhs; unfold hamperlaw26_SliceLays.l2
    have hr := bt_range x (j : Int)
    rw [if_pos (by omega), if_pos (by omega), if_pos (by omega), w64 (x := u * 256) (by omega) (by omega), w64 (x := bt x (j : Int)) (by omega) (by omega), ← hv, w64 (x := v) (by omega) (by omega), w64 (x := (j : Int) + 1) (by omega) (by omega)]
    rfl
  have last : Ev (fun k => hamperlaw26_SliceLays.l2 k a x (a.size : Int) ((8 : Nat) : Int)) true := by
    refine Ev.step (fun k => ?_) (h3 (T - (8 + a.size)) (8 + a.size) (by omega) (Nat.le_refl _))
    show hamperlaw26_SliceLays.l2 (k + 1) a x (a.size : Int) ((8 : Nat) : Int) = _
    conv => lhs; unfold hamperlaw26_SliceLays.l2
    rw [if_neg (by decide), w64 (by omega) (by omega)]
    congr 1
  refine Ev.step (f := fun k => hamperlaw26_SliceLays.l2 k a x 0 ((0 : Nat) : Int)) (fun k => ?_) ?_
  · show hamperlaw26_SliceLays.j3 (k + 1) a x false = _
    simp only [hamperlaw26_SliceLays.j3]
    rw [if_neg (by simp)]
    rfl
  · refine step 0 0 0 (by decide) (by rw [hb 0 (by decide)]; rfl) (by omega) (by omega) (by omega) (by omega) ?_
    refine step 1 0 0 (by decide) (by rw [hb 1 (by decide)]; rfl) (by omega) (by omega) (by omega) (by omega) ?_
    refine step 2 0 0 (by decide) (by rw [hb 2 (by decide)]; rfl) (by omega) (by omega) (by omega) (by omega) ?_
    refine step 3 0 0 (by decide) (by rw [hb 3 (by decide)]; rfl) (by omega) (by omega) (by omega) (by omega) ?_
    refine step 4 0 0 (by decide) (by rw [hb 4 (by decide)]; rfl) (by omega) (by omega) (by omega) (by omega) ?_
    refine step 5 0 0 (by decide) (by rw [hb 5 (by decide)]; rfl) (by omega) (by omega) (by omega) (by omega) ?_
    refine step 6 0 ((a.size / 256 : Nat) : Int) (by decide) (by rw [hb 6 (by decide)]; simp) (by omega) (by omega) (by omega) (by omega) ?_
    refine step 7 ((a.size / 256 : Nat) : Int) (a.size : Int) (by decide) (by rw [hb 7 (by decide)]; simp; omega) (by omega) (by omega) (by omega) (by omega) ?_
    exact last

theorem lays_rows (a : ByteArray) (K D S T : Nat) (ha : a.size ≤ 3000) (hT0 : K * D * S = T) (hT : 8 + a.size ≤ T) (hT2 : T ≤ 3145728) (hK : K ≤ 1000) (hD : D ≤ 1000) :
    ∀ (n v : Nat) (x : ByteArray), v + n = K → x.data.toList = (allL a.data.toList T).take (v * D * S) → Ev (fun k => hamperlaw26_SliceLays.l0 k a (volsTo (allL a.data.toList T) D S K) x (v : Int)) true := by
  have hl : (allL a.data.toList T).length = T := allL_length _ _ (by rw [← Lib.size_eq]; exact hT)
  have hvl := volsTo_length (allL a.data.toList T) D S K
  intro n
  induction n with
  | zero =>
    intro v x hv hx
    obtain rfl : v = K := by omega
    rw [hT0, List.take_of_length_le (by omega)] at hx
    have hxs : x.size = T := by rw [Lib.size_eq, hx, hl]
    refine Ev.step (fun k => ?_) (lays_end a x T ha hT hT2 hx)
    show hamperlaw26_SliceLays.l0 (k + 1) a _ x (v : Int) = _
    conv => lhs; unfold hamperlaw26_SliceLays.l0
    rw [if_neg (by rw [hvl]; omega), w64 (by omega) (by omega), if_neg (by omega), if_pos (by omega), if_pos (by omega)]
    have e : (x.extract 8 (8 + (a.size : Int)).toNat).toList = a.toList := by
      rw [show (8 + (a.size : Int)).toNat = 8 + a.size by omega, Lib.toList_data, Lib.toList_data, Lib.extract_data, hx]
      unfold allL
      rw [List.append_assoc, List.drop_left' (eightL_length _), Nat.add_sub_cancel_left, Lib.size_eq, List.take_left]
    rw [e]
    simp
  | succ n ih =>
    intro v x hv hx
    have hvK : v < K := by omega
    have hrows : ∀ (p i : Nat) (x : ByteArray), i + p = D → x.data.toList = (allL a.data.toList T).take ((v * D + i) * S) → Ev (fun k => hamperlaw26_SliceLays.l1 k a (volsTo (allL a.data.toList T) D S K) x (v : Int) (i : Int)) true := by
      intro p
      induction p with
      | zero =>
        intro i x hi hx
        obtain rfl : i = D := by omega
        have h1 := ih (v + 1) x (by omega) (by rw [hx, Nat.add_mul v 1 i, Nat.one_mul])
        refine Ev.step (fun k => ?_) h1
        show hamperlaw26_SliceLays.l1 (k + 1) a _ x (v : Int) (i : Int) = _
        conv => lhs; unfold hamperlaw26_SliceLays.l1
        rw [if_pos (by omega), if_pos (by rw [hvl]; omega), rd_vols _ _ _ _ _ hvK, volTo_length, if_neg (by omega), w64 (by omega) (by omega)]
        rfl
      | succ p ihp =>
        intro i x hi hx
        have hil : i < D := by omega
        have hroom := row_room (s := S) hvK hil
        have h1 := ihp (i + 1) (x ++ rowL (allL a.data.toList T) S (v * D + i)) (by omega) (by
          rw [ByteArray.data_append, Array.toList_append, hx, take_row, Nat.add_assoc])
        have hxs : x.size ≤ T := by
          rw [Lib.size_eq, hx, List.length_take]
          omega
        have hrs : (rowL (allL a.data.toList T) S (v * D + i)).size ≤ T := by
          rw [row_size _ _ _ (by rw [hl, Nat.add_mul, Nat.one_mul]; omega)]
          omega
        refine Ev.step (fun k => ?_) h1
        show hamperlaw26_SliceLays.l1 (k + 1) a _ x (v : Int) (i : Int) = _
        conv => lhs; unfold hamperlaw26_SliceLays.l1
        rw [if_pos (by omega), if_pos (by rw [hvl]; omega), rd_vols _ _ _ _ _ hvK, volTo_length, if_pos (by omega), if_pos (by omega), rd_row _ _ _ _ _ hil, if_pos (by omega), w64 (by omega) (by omega)]
        rfl
    refine Ev.step (fun k => ?_) (hrows D 0 x (by omega) (by rw [hx]; simp))
    show hamperlaw26_SliceLays.l0 (k + 1) a _ x (v : Int) = _
    conv => lhs; unfold hamperlaw26_SliceLays.l0
    rw [if_pos (by rw [hvl]; omega)]
    rfl

theorem pure_sliceLays (a : ByteArray) (d r s m : Int) : ∃ k, hamperlaw26_SliceLays.f k a d r s m = some true := by
  have hno : Ev (fun k => hamperlaw26_SliceLays.j0 k a true d r s m) true := by
    refine Ev.step (f := fun _ => some true) (fun k => ?_) (Ev.now true)
    show hamperlaw26_SliceLays.j0 (k + 1) a true d r s m = _
    simp only [hamperlaw26_SliceLays.j0]
    rw [if_pos trivial, awake_true]
    rfl
  by_cases h1 : (a.size : Int) > 3000
  · obtain ⟨k, hk⟩ := hno.rounds
    refine ⟨k, ?_⟩
    unfold hamperlaw26_SliceLays.f
    rw [if_pos h1]
    exact hk
  · have hyes : Ev (fun k => hamperlaw26_SliceLays.j0 k a false d r s m) true := by
      have hc : slice_Cut.f a d r s m = some (cutB a d r s m) := by
        unfold slice_Cut.f
        rw [if_pos (by omega)]
      by_cases h2 : (countB a.size d r s m).2 = 0
      · obtain ⟨hsh, hn, hk1, hk2, _, hroom⟩ := countB_ok h2
        have hb := shapeB_iff.1 hsh
        obtain ⟨D, rfl⟩ : ∃ D : Nat, d = (D : Int) := ⟨d.toNat, by omega⟩
        obtain ⟨S, rfl⟩ : ∃ S : Nat, s = (S : Int) := ⟨s.toNat, by omega⟩
        obtain ⟨K, hK⟩ : ∃ K : Nat, (countB a.size D r S m).1 = (K : Int) := ⟨((countB a.size D r S m).1).toNat, by omega⟩
        rw [hK] at hk1 hk2 hroom
        have hT : ((K * D * S : Nat) : Int) = (K : Int) * ((D : Int) * (S : Int)) := by rw [Int.natCast_mul, Int.natCast_mul, Int.mul_assoc]
        have h3 : K * D ≤ 96 * 64 := Nat.mul_le_mul (by omega) (by omega)
        have h4 : K * D * S ≤ 96 * 64 * 512 := Nat.mul_le_mul h3 (by omega)
        have hcut : cutB a D r S m = (volsTo (allL a.data.toList (K * D * S)) D S K, 0) := by
          unfold cutB
          rw [if_pos h2, hK]
          simp only [Int.toNat_natCast]
        refine Ev.step (fun k => ?_) (lays_rows a K D S (K * D * S) (by omega) rfl (by omega) (by omega) (by omega) (by omega) K 0 ⟨#[]⟩ (by omega) (by simp))
        show hamperlaw26_SliceLays.j0 (k + 1) a false D r S m = _
        simp only [hamperlaw26_SliceLays.j0]
        rw [if_neg (by simp), hc, Option.bind_some, hcut, if_pos rfl]
        rfl
      · refine Ev.step (f := fun _ => some true) (fun k => ?_) (Ev.now true)
        show hamperlaw26_SliceLays.j0 (k + 1) a false d r s m = _
        simp only [hamperlaw26_SliceLays.j0]
        have hcut : cutB a d r s m = ([], (countB a.size d r s m).2) := by
          unfold cutB
          rw [if_neg h2]
        rw [if_neg (by simp), hc, Option.bind_some, hcut, if_neg h2]
        rfl
    obtain ⟨k, hk⟩ := hyes.rounds
    refine ⟨k, ?_⟩
    unfold hamperlaw26_SliceLays.f
    rw [if_neg h1, awake_true]
    exact hk
end Go.Proofs.YtnnkenbcdepafaaDoor.H
