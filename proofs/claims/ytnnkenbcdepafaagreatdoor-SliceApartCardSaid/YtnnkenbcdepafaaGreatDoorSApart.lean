/- The law SliceApart over plain words: unlike places have unlike names, of at most 85 bytes, none of them a ~; all volumes of one archive have one ID, of 16 bytes. The row and the card of SliceApart, from the walk and the law over plain words. -/
import Derived.Test.YtnnkenbcdepafaaGreatDoorL3
import Derived.Test.YtnnkenbcdepafaaGreatDoorHW
import Derived.Test.YtnnkenbcdepafaaGreatDoorHRO
namespace Go.Proofs.YtnnkenbcdepafaaGreatDoor.H
open Go.RowKit Go.Proofs.YtnnkenbcdepafaaGreatDoorW.PrintWords Go.Proofs.YtnnkenbcdepafaaGreatDoor.B Go.Proofs.YtnnkenbcdepafaaGreatDoor.A Go.Proofs.YtnnkenbcdepafaaGreatDoor.L
set_option linter.unusedVariables false

theorem bt_list (x : ByteArray) (L : List UInt8) (h : x.data.toList = L) (j : Nat) (hj : j < L.length) : bt x (j : Int) = ((L.getD j 0).toNat : Int) := by
  have hs : j < x.size := by rw [Lib.size_eq, h]; exact hj
  unfold bt
  rw [dif_pos (by simpa using hs)]
  simp only [Int.toNat_natCast]
  congr 2
  subst h
  rw [List.getD_eq_getElem?_getD, Array.getElem?_toList]
  have : x.data[j]? = some (x[j]'hs) := Array.getElem?_eq_getElem hs
  rw [this]
  rfl
theorem dd_two : ∀ n : Fin 100, (dd n.val).length ≤ 2 := by decide +kernel
theorem dd_three : ∀ n : Fin 513, (dd n.val).length ≤ 3 := by decide +kernel
theorem itoa_two {n : Int} (h0 : 0 ≤ n) (h1 : n ≤ 99) : (Lib.itoa n).length ≤ 2 := by
  rw [itoa_dd n h0 (by omega)]
  exact dd_two ⟨n.toNat, by omega⟩
theorem itoa_three {n : Int} (h0 : 0 ≤ n) (h1 : n ≤ 512) : (Lib.itoa n).length ≤ 3 := by
  rw [itoa_dd n h0 (by omega)]
  exact dd_three ⟨n.toNat, by omega⟩
theorem itoa_ne {n : Int} (h0 : 0 ≤ n) (h1 : n ≤ 512) : ∀ c ∈ Lib.itoa n, c ≠ 126 := by
  rw [itoa_dd n h0 (by omega)]
  intro c hc
  have h := List.all_eq_true.1 (dd_digits ⟨n.toNat, by omega⟩) c hc
  rintro rfl
  revert h
  decide
theorem name_len {b : ByteArray} {i k d r s m : Int} (h : placeB b i k d r s m = true) : (nameB b i k d r s m).size ≤ 85 := by
  have hp := placeB_iff.1 h
  have hs := shapeB_iff.1 hp.1
  show (nameTo b.data.toList (nums i k d r s m) 6).toArray.size ≤ 85
  rw [List.size_toArray]
  have e : b.data.toList.length = b.size := (Lib.size_eq b).symm
  have l0 := itoa_two (n := d) (by omega) (by omega)
  have l1 := itoa_two (n := r) (by omega) (by omega)
  have l2 := itoa_three (n := s) (by omega) (by omega)
  have l3 := itoa_two (n := m) (by omega) (by omega)
  have l4 := itoa_two (n := k) (by omega) (by omega)
  have l5 := itoa_two (n := i) (by omega) (by omega)
  simp only [nameTo, nums, List.length_append, List.length_cons, List.length_nil]
  omega
theorem name_ne {b : ByteArray} {i k d r s m : Int} (h : placeB b i k d r s m = true) : ∀ c ∈ (nameB b i k d r s m).data.toList, c ≠ 126 := by
  have hp := placeB_iff.1 h
  have hj : ∀ j, j ≤ 6 → ∀ c ∈ nameTo b.data.toList (nums i k d r s m) j, c ≠ 126 := by
    intro j
    induction j with
    | zero =>
      intro _ c hc
      rcases List.mem_append.1 hc with h1 | h1
      · have h2 := List.all_eq_true.1 hp.2.2 c h1
        rintro rfl
        revert h2
        decide
      · rw [List.mem_singleton.1 h1]
        decide
    | succ j ih =>
      intro hj c hc
      rw [nameTo] at hc
      rcases List.mem_append.1 hc with h1 | h1
      · exact ih (by omega) c h1
      · rcases List.mem_cons.1 h1 with rfl | h2
        · have : j = 0 ∨ j = 1 ∨ j = 2 ∨ j = 3 ∨ j = 4 ∨ j = 5 := by omega
          rcases this with rfl | rfl | rfl | rfl | rfl | rfl <;> decide
        · have hn := nums_small h j
          exact itoa_ne hn.1 hn.2 c h2
  exact hj 6 (Nat.le_refl _)

theorem name_eq {b : ByteArray} {i k d r s m : Int} (hi : -9223372036854775808 ≤ i ∧ i ≤ 9223372036854775807) (hk : -9223372036854775808 ≤ k ∧ k ≤ 9223372036854775807) (hb : b.size ≤ 300) :
    slice_Name.f b i k d r s m = some (if placeB b i k d r s m = true then (nameB b i k d r s m, 0) else (⟨#[]⟩, 1)) := by
  unfold slice_Name.f
  rw [if_pos ⟨hi, hk, by omega⟩]
theorem id_eq {b : ByteArray} {i k d r s m : Int} (hi : -9223372036854775808 ≤ i ∧ i ≤ 9223372036854775807) (hk : -9223372036854775808 ≤ k ∧ k ≤ 9223372036854775807) (hb : b.size ≤ 300) :
    slice_ID.f b i k d r s m = some (idB b i k d r s m) := by
  unfold slice_ID.f
  rw [if_pos ⟨hi, hk, by omega⟩]
theorem idOf_size (b : ByteArray) (k d r s m : Int) : (idOf b k d r s m).size = 16 := by
  show ((K.blakeL (nameB b 0 k d r s m).data.toList).take 16).toArray.size = 16
  rw [List.size_toArray, List.length_take, K.blakeL_length]
  rfl

theorem apart_loop (a b : ByteArray) (i k d r s m : Int) (hp : placeB b i k d r s m = true) (ha : a = nameB b i k d r s m) (hi : -9223372036854775808 ≤ i ∧ i ≤ 9223372036854775807) (hk : -9223372036854775808 ≤ k ∧ k ≤ 9223372036854775807) (hb : b.size ≤ 300) :
    ∀ (n j : Nat), j + n = a.size → Ev (fun q => hamperlaw26_SliceApart.l0 q a (j : Int) b i k d r s m) true := by
  have hl : a.size ≤ 85 := by rw [ha]; exact name_len hp
  intro n
  induction n with
  | zero =>
    intro j hj
    refine Ev.step (f := fun _ => some true) (fun q => ?_) (Ev.now true)
    show hamperlaw26_SliceApart.l0 (q + 1) a (j : Int) b i k d r s m = _
    simp only [hamperlaw26_SliceApart.l0]
    rw [if_neg (by omega), id_eq hi hk hb, id_eq (by omega) hk hb, Option.bind_some, Option.bind_some]
    unfold idB
    rw [if_pos hp, if_pos (place_zero hp), if_pos (by omega)]
    simp only [if_true]
    rw [idOf_size]
    rfl
  | succ n ih =>
    intro j hj
    refine Ev.step (fun q => ?_) (ih (j + 1) (by omega))
    show hamperlaw26_SliceApart.l0 (q + 1) a (j : Int) b i k d r s m = _
    simp only [hamperlaw26_SliceApart.l0]
    have hbt : ¬ (bt a (j : Int) = 126) := by
      intro he
      have hlen : j < a.data.toList.length := by rw [← Lib.size_eq]; omega
      have h1 : bt a (j : Int) = ((a.data.toList[j].toNat : Nat) : Int) := by
        rw [bt_list a _ rfl j hlen, List.getD_eq_getElem?_getD, List.getElem?_eq_getElem hlen]
        rfl
      have h2 := name_ne hp a.data.toList[j] (by rw [← ha]; exact List.getElem_mem hlen)
      apply h2
      apply UInt8.toNat_inj.1
      show _ = 126
      omega
    rw [if_pos (by omega), if_pos (by omega), if_neg hbt, w64 (by omega) (by omega)]
    rfl

theorem pure_sliceApart (a : ByteArray) (i k d r s m : Int) (b : ByteArray) (i' k' d' r' s' m' : Int) (hi : -9223372036854775808 ≤ i ∧ i ≤ 9223372036854775807) (hk : -9223372036854775808 ≤ k ∧ k ≤ 9223372036854775807) (hi' : -9223372036854775808 ≤ i' ∧ i' ≤ 9223372036854775807) (hk' : -9223372036854775808 ≤ k' ∧ k' ≤ 9223372036854775807) :
    ∃ q, hamperlaw26_SliceApart.f q a i k d r s m b i' k' d' r' s' m' = some true := by
  have hno : hamperlaw26_SliceApart.j0 1 true a i k d r s m b i' k' d' r' s' m' = some true := by
    simp only [hamperlaw26_SliceApart.j0]
    rw [if_pos trivial, awake_true]
    rfl
  by_cases h1 : (a.size : Int) > 300
  · exact ⟨1, by unfold hamperlaw26_SliceApart.f; rw [if_pos h1]; exact hno⟩
  · by_cases h2 : (b.size : Int) > 300
    · exact ⟨1, by unfold hamperlaw26_SliceApart.f; rw [if_neg h1, if_pos h2]; exact hno⟩
    · have hj1 : ∀ x : Bool, x = false → Ev (fun q => hamperlaw26_SliceApart.j1 q (if placeB a i k d r s m = true then (nameB a i k d r s m, (0 : Int)) else (⟨#[]⟩, 1)).1 (if placeB a i k d r s m = true then (nameB a i k d r s m, (0 : Int)) else (⟨#[]⟩, 1)).2 x a i k d r s m) true := by
        rintro x rfl
        by_cases hp : placeB a i k d r s m = true
        · rw [if_pos hp]
          refine Ev.step (fun q => ?_) (apart_loop _ a i k d r s m hp rfl hi hk (by omega) _ 0 (Nat.zero_add _))
          show hamperlaw26_SliceApart.j1 (q + 1) _ _ false a i k d r s m = _
          simp only [hamperlaw26_SliceApart.j1]
          rw [if_neg (by decide), if_pos trivial]
          rfl
        · rw [if_neg hp]
          refine Ev.step (f := fun _ => some true) (fun q => ?_) (Ev.now true)
          show hamperlaw26_SliceApart.j1 (q + 1) _ _ false a i k d r s m = _
          simp only [hamperlaw26_SliceApart.j1]
          rw [if_neg (by decide), if_neg (by decide), Lib.toList_data]
          rfl
      have hj0 : Ev (fun q => hamperlaw26_SliceApart.j0 q false a i k d r s m b i' k' d' r' s' m') true := by
        refine Ev.step (fun q => ?_) (hj1 false rfl)
        show hamperlaw26_SliceApart.j0 (q + 1) false a i k d r s m b i' k' d' r' s' m' = _
        simp only [hamperlaw26_SliceApart.j0]
        rw [if_neg (by decide), name_eq hi hk (by omega), name_eq hi' hk' (by omega), Option.bind_some, Option.bind_some]
        by_cases hp : placeB a i k d r s m = true
        · by_cases hp' : placeB b i' k' d' r' s' m' = true
          · rw [if_pos hp, if_pos hp', if_pos rfl, if_pos rfl]
            have hx : (((nameB a i k d r s m).toList == (nameB b i' k' d' r' s' m').toList) != (a.toList == b.toList && (i == i' && (k == k' && ((d == d' && (r == r' && (s == s' && m == m')))))))) = false := by
              by_cases he : nameB a i k d r s m = nameB b i' k' d' r' s' m'
              · obtain ⟨e0, e1, e2, e3, e4, e5, e6⟩ := good_unique (name := nameB b i' k' d' r' s' m') ⟨hp, he⟩ ⟨hp', rfl⟩
                subst e0 e1 e2 e3 e4 e5 e6
                simp
              · have h3 : ((nameB a i k d r s m).toList == (nameB b i' k' d' r' s' m').toList) = false := by
                  rw [beq_eq_false_iff_ne]
                  intro e
                  rw [Lib.toList_data, Lib.toList_data] at e
                  exact he (ba_ext e)
                rw [h3]
                cases hq : (a.toList == b.toList && (i == i' && (k == k' && ((d == d' && (r == r' && (s == s' && m == m')))))))
                · rfl
                · exfalso
                  simp only [Bool.and_eq_true, beq_iff_eq] at hq
                  obtain ⟨q0, q1, q2, q3, q4, q5, q6⟩ := hq
                  rw [Lib.toList_data, Lib.toList_data] at q0
                  have q0 := ba_ext q0
                  subst q0 q1 q2 q3 q4 q5 q6
                  exact he rfl
            simp only [hx]
          · rw [if_pos hp, if_neg hp', if_pos rfl, if_neg (by decide)]
        · rw [if_neg hp, if_neg (by decide)]
      obtain ⟨q, hq⟩ := hj0.rounds
      refine ⟨q, ?_⟩
      unfold hamperlaw26_SliceApart.f
      rw [if_neg h1, if_neg h2, awake_true]
      exact hq
end Go.Proofs.YtnnkenbcdepafaaGreatDoor.H

namespace Go.Proofs.YtnnkenbcdepafaaGreatDoor.sliceApart
open Go.ChangeShapes Go.WideShapes Go.ChangeAt Go.RowKit Go.Proofs.YtnnkenbcdepafaaGreatDoor.H
open Go.ChangeMaps (open_string shut_string)
set_option linter.unusedVariables false
set_option maxRecDepth 100000

theorem reads (os : Os) {H : Type} (enc : TypeId × Value → H) : ∃ places, DataW.whole enc Tryz.prog ((laidWorld os).forCall (fun _ _ => 0) ⟨#[], #[.agg #[.string ByteArray.empty, .int .i64 0, .int .i64 0, .int .i64 0, .int .i64 0, .int .i64 0, .int .i64 0], .agg #[.string ByteArray.empty, .int .i64 0, .int .i64 0, .int .i64 0, .int .i64 0, .int .i64 0, .int .i64 0]], []⟩).memory Tryz.f4.params.toList Rows.sliceApartSpec.vars false (#[.agg #[.string ByteArray.empty, .int .i64 0, .int .i64 0, .int .i64 0, .int .i64 0, .int .i64 0, .int .i64 0], .agg #[.string ByteArray.empty, .int .i64 0, .int .i64 0, .int .i64 0, .int .i64 0, .int .i64 0, .int .i64 0]] : Array Value).toList 8 = some ([.agg [.lit (.string []), .lit (.int .i64 0), .lit (.int .i64 0), .agg [.lit (.int .i64 0), .lit (.int .i64 0), .lit (.int .i64 0), .lit (.int .i64 0)]], .agg [.lit (.string []), .lit (.int .i64 0), .lit (.int .i64 0), .agg [.lit (.int .i64 0), .lit (.int .i64 0), .lit (.int .i64 0), .lit (.int .i64 0)]]], [], places) :=
  ⟨[], by kernel_rfl⟩

theorem lifted (os : Os) (started : os.Started) (H : Type) (enc : TypeId × Value → H) (F : Stop.Interp) :
    ReturnsInHanded {} Tryz.checked os 4 .any ((OpenSpec.ofChange Rows.sliceApartSpec).preRow enc Tryz.prog Tryz.f4 Rows.sliceApartRow.domain false Rows.sliceApartRow.laid) (((OpenSpec.ofChange Rows.sliceApartSpec).at F).post enc Tryz.prog Tryz.f4 false true false false) := by
  obtain ⟨places, hx⟩ := reads os enc
  refine returnsInHanded_of_row (C := Tryz.checked) (s := OpenSpec.ofChange Rows.sliceApartSpec) own started (by kernel_rfl) Tryz.func4
    (witness_row_atRef (enc := enc) (C := Tryz.checked) false (laidWorld os) #[.agg #[.string ByteArray.empty, .int .i64 0, .int .i64 0, .int .i64 0, .int .i64 0, .int .i64 0, .int .i64 0], .agg #[.string ByteArray.empty, .int .i64 0, .int .i64 0, .int .i64 0, .int .i64 0, .int .i64 0, .int .i64 0]] rfl (by kernel_rfl) (by kernel_rfl) (by kernel_rfl)
      (OpenSpec.preRow_of_cond 8 hx (by kernel_rfl) (fun k hk => by cases hk) (by kernel_rfl) (laidWorld_metH os _))) ?_
  intro W base args ds gs before hval0 hW _ _ hsz0 hL _ _
  have hsz : (DataW.weightsEach Tryz.prog (Tryz.f4.params.toList ++ Rows.sliceApartSpec.plain.varTypes Tryz.prog) (ds ++ gs)).all (· ≤ reachBytes) = true := hsz0
  have hval : ∀ (j : Nat) t v, Tryz.f4.params[j]? = some t → args[j]? = some v → Value.okWide Tryz.prog W .any base t v := hval0
  have hW' := hW
  obtain ⟨p, q, hA0, hV, rfl, hfz, hnd⟩ := hW
  have hA : DataW.TrodAll enc Tryz.prog W 0 (fun _ => true) true Tryz.f4.params.toList args.toList ds p := hA0
  rw [Tryz.params4] at hA hval hsz
  obtain ⟨v0, vs0, d0, ds0, p0, q0, hargs, rfl, rfl, h0, r0⟩ := trodAll_cons hA
  obtain ⟨v1, vs1, d1, ds1, p1, q1, rfl, rfl, rfl, h1, r1⟩ := trodAll_cons r0
  obtain ⟨rfl, rfl, rfl⟩ := trodAll_nil r1
  obtain rfl : args = #[v0, v1] := by cases args; simp_all
  obtain ⟨rfl, rfl⟩ := trodVars_none hV
  have k0 := h0
  have lt0 : ∀ x ∈ p0, x.block < W.heap.size := by obtain ⟨m, hm⟩ := k0; exact DataW.trod_lt m _ _ _ hm
  obtain ⟨a0_b, a0_i, a0_k, a0_d, a0_r, a0_s, a0_m, rfl, _, wi0, wk0⟩ := open_place (hval 0 25 v0 rfl rfl) h0
  have k1 := h1
  have lt1 : ∀ x ∈ p1, x.block < W.heap.size := by obtain ⟨m, hm⟩ := k1; exact DataW.trod_lt m _ _ _ hm
  obtain ⟨a1_b, a1_i, a1_k, a1_d, a1_r, a1_s, a1_m, rfl, _, wi1, wk1⟩ := open_place (hval 1 25 v1 rfl rfl) h1
  clear hA0 hval0 hsz0
  obtain ⟨n, hn⟩ := pure_sliceApart a0_b a0_i a0_k a0_d a0_r a0_s a0_m a1_b a1_i a1_k a1_d a1_r a1_s a1_m wi0 wk0 wi1 wk1
  refine (L.hamperlaw26_SliceApart.calls n a0_b a0_i a0_k a0_d a0_r a0_s a0_m a1_b a1_i a1_k a1_d a1_r a1_s a1_m true W hn (LaidW.of_row hL)).mono fun e W' ⟨he, bel⟩ => ?_
  subst he
  exact ⟨_, rfl, _, _, _, [], _, [], hW', trodAll_mk1 (shut_bool Tryz.underlying4 _), (trodAll_cons_mk (Below.trod laidOut (by kernel_rfl) (of_decide_eq_true (by kernel_rfl)) k0 bel lt0) (trodAll_cons_mk (Below.trod laidOut (by kernel_rfl) (of_decide_eq_true (by kernel_rfl)) k1 bel lt1) trodAll_mk0)), rfl, bel.frame _, fun h => by cases h⟩

theorem said : Rows.SliceApartSaid :=
  OpenClaim.holds_of_cond 4 Tryz.f4 rfl rfl rfl rfl rfl rfl rfl ⟨rfl, rfl, rfl, rfl, rfl⟩ rfl rfl rfl rfl rfl (by kernel_rfl) Tryz.func4 (by kernel_rfl)
    (of_decide_eq_true (by kernel_rfl)) (by unfold Func.isWrapper; first | (rw [if_pos (by decide +kernel)]; kernel_rfl) | (rw [if_neg (by decide +kernel)]; exact ⟨rfl, rfl⟩))
    (fun os started H enc _ F => by rw [OpenClaim.pre_eq_preRow]; exact lifted os started H enc F)

theorem plain (f : FuncId) (fn : Func) (hf : Tryz.pinned.checked.prog.funcNamed "hamper/hamperlaw26.SliceApart" = some f) (hfn : Tryz.pinned.checked.prog.funcs[f]? = some fn) :
    true = Tryz.pinned.checked.prog.looks [] ∧ ∀ (j : Nat) t, fn.params[j]? = some t → Tryz.pinned.checked.prog.wantsStandIn t = false := by
  obtain rfl : f = 4 := Option.some.inj ((show Tryz.prog.funcNamed "hamper/hamperlaw26.SliceApart" = some 4 by kernel_rfl).symm.trans hf) |>.symm
  obtain rfl : fn = Tryz.f4 := (Option.some.inj (Tryz.func4.symm.trans hfn)).symm
  refine ⟨by kernel_rfl, fun j t ht => ?_⟩
  rw [Tryz.params4] at ht
  have hm := Array.mem_of_getElem? ht
  simp only [List.mem_toArray, List.mem_cons, List.not_mem_nil, or_false] at hm
  rcases hm with rfl | rfl
  · exact (show Tryz.prog.wantsStandIn 25 = false by kernel_rfl)
  · exact (show Tryz.prog.wantsStandIn 25 = false by kernel_rfl)

/-- The card. -/
theorem card : Rows.SliceApartCardSaid :=
  Claim7.holds_tied_plain_at .later [] _ _ _ _ said (fun _ h => by cases h) (by kernel_rfl) (fun _ h => by cases h) sliceApart_row_tie rfl ⟨rfl, rfl⟩ (by kernel_rfl) rfl plain (by kernel_rfl)
end Go.Proofs.YtnnkenbcdepafaaGreatDoor.sliceApart
