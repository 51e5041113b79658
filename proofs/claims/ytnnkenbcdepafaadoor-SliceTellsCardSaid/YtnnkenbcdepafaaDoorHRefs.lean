/- The document's Cut and Same, as the law's own loops compute them: the same cut; over plain words. The document's Same says whether volumes are the same; over plain words. The document's Join, as the law's own loops compute it, is joinB; over plain words. The document's Join over all volumes is joinB; over plain words. -/
import Derived.Test.YtnnkenbcdepafaaDoorHLong
import Derived.Laws.BytesArg
namespace Go.Proofs.YtnnkenbcdepafaaDoor.H
open Go.RowKit Go.Proofs.YtnnkenbcdepafaaDoorW.PrintWords Go.Proofs.YtnnkenbcdepafaaDoor.B
set_option linter.unusedVariables false

theorem w64n {x : Int} {n : Nat} (h : x = (n : Int)) (hn : n ≤ 9223372036854775807) : wrap64 x = (n : Int) := by
  subst h
  exact w64 (by omega) (by omega)
theorem eight_step (k m i : Nat) (L : List Int) (hm : m < 9223372036854775808) (hi : i < 8) (hL : L.length = 8) :
    hamperref10_Eight.l0 (k + 1) (m : Int) L (i : Int) = hamperref10_Eight.l0 k ((m / 256 : Nat) : Int) (L.set i ((m % 256 : Nat) : Int)) ((i : Int) - 1) := by
  conv => lhs; unfold hamperref10_Eight.l0
  have e1 : Int.tdiv (m : Int) 256 = ((m / 256 : Nat) : Int) := by rw [Int.tdiv_eq_ediv_of_nonneg (by omega)]; omega
  have e2 : Int.tmod (m : Int) 256 = ((m % 256 : Nat) : Int) := by rw [Int.tmod_eq_emod_of_nonneg (by omega)]; omega
  rw [if_pos (by omega), if_pos (by omega), if_pos (by omega), e1, e2, w64 (by omega) (by omega), w64 (by omega) (by omega), Int.toNat_natCast]
  congr 2
  omega
theorem ref_eight (n : Nat) (hn : n < 9223372036854775808) : Ev (fun k => hamperref10_Eight.f k (n : Int)) (⟨(eightL n).toArray⟩ : ByteArray) := by
  refine ⟨10, fun k hk => ?_⟩
  obtain ⟨j, rfl⟩ : ∃ j, k = j + 1 + 1 + 1 + 1 + 1 + 1 + 1 + 1 + 1 := ⟨k - 9, by omega⟩
  show hamperref10_Eight.f _ (n : Int) = _
  unfold hamperref10_Eight.f
  rw [if_pos (by decide), show (7 : Int) = ((7 : Nat) : Int) from rfl, eight_step _ _ 7 _ hn (by decide) (by simp)]
  rw [show ((7 : Nat) : Int) - 1 = ((6 : Nat) : Int) from rfl, eight_step _ _ 6 _ (by omega) (by decide) (by simp)]
  rw [show ((6 : Nat) : Int) - 1 = ((5 : Nat) : Int) from rfl, eight_step _ _ 5 _ (by omega) (by decide) (by simp)]
  rw [show ((5 : Nat) : Int) - 1 = ((4 : Nat) : Int) from rfl, eight_step _ _ 4 _ (by omega) (by decide) (by simp)]
  rw [show ((4 : Nat) : Int) - 1 = ((3 : Nat) : Int) from rfl, eight_step _ _ 3 _ (by omega) (by decide) (by simp)]
  rw [show ((3 : Nat) : Int) - 1 = ((2 : Nat) : Int) from rfl, eight_step _ _ 2 _ (by omega) (by decide) (by simp)]
  rw [show ((2 : Nat) : Int) - 1 = ((1 : Nat) : Int) from rfl, eight_step _ _ 1 _ (by omega) (by decide) (by simp)]
  rw [show ((1 : Nat) : Int) - 1 = ((0 : Nat) : Int) from rfl, eight_step _ _ 0 _ (by omega) (by decide) (by simp)]
  unfold hamperref10_Eight.l0
  rw [if_neg (by decide)]
  congr 1
  refine ba_ext ?_
  rw [strOfNums_data]
  have q : ∀ m p : Nat, p % 256 = m % 256 → UInt8.ofNat p = UInt8.ofNat m := fun m p h => UInt8.toNat_inj.1 (by simp [UInt8.toNat_ofNat']; omega)
  simp only [List.replicate, List.set_cons_zero, List.set_cons_succ, List.map_cons, List.map_nil, Int.toNat_natCast, eightL]
  rw [q n (n % 256) (by omega), q (n / 256) (n / 256 % 256) (by omega), q (n / 65536) (n / 256 / 256 % 256) (by omega), q (n / 16777216) (n / 256 / 256 / 256 % 256) (by omega), q (n / 4294967296) (n / 256 / 256 / 256 / 256 % 256) (by omega), q (n / 1099511627776) (n / 256 / 256 / 256 / 256 / 256 % 256) (by omega), q (n / 281474976710656) (n / 256 / 256 / 256 / 256 / 256 / 256 % 256) (by omega), q (n / 72057594037927936) (n / 256 / 256 / 256 / 256 / 256 / 256 / 256 % 256) (by omega)]

theorem ref_cut_rows (x : ByteArray) (all : List UInt8) (hx : x.data.toList = all) (K D S : Nat) (r m : Int) (hK : K ≤ 96) (hD : D ≤ 64) (hS : S ≤ 512) (hl : all.length = K * D * S) :
    ∀ (n v : Nat), v + n = K → Ev (fun k => hamperref26_Cut.l0 k (K : Int) x (volsTo all D S v) (v : Int) D r S m) (volsTo all D S K, 0) := by
  have hxs : x.size = K * D * S := by rw [Lib.size_eq, hx, hl]
  have hKD : K * D ≤ 96 * 64 := Nat.mul_le_mul hK hD
  have hT : K * D * S ≤ 96 * 64 * 512 := Nat.mul_le_mul hKD hS
  intro n
  induction n with
  | zero =>
    intro v hv
    obtain rfl : v = K := by omega
    refine Ev.step (f := fun _ => some (volsTo all D S v, 0)) (fun k => ?_) (Ev.now _)
    show hamperref26_Cut.l0 (k + 1) (v : Int) x _ (v : Int) D r S m = _
    unfold hamperref26_Cut.l0
    rw [if_neg (by omega)]
  | succ n ih =>
    intro v hv
    have hvK : v < K := by omega
    have inner : ∀ (p i : Nat), i + p = D → Ev (fun k => hamperref26_Cut.l1 k (K : Int) x (volsTo all D S v) (v : Int) (volTo all D S v i) (i : Int) D r S m) (volsTo all D S K, 0) := by
      intro p
      induction p with
      | zero =>
        intro i hi
        obtain rfl : i = D := by omega
        refine Ev.step (fun k => ?_) (ih (v + 1) (by omega))
        show hamperref26_Cut.l1 (k + 1) (K : Int) x _ (v : Int) _ (i : Int) i r S m = _
        conv => lhs; unfold hamperref26_Cut.l1
        rw [if_neg (by omega), if_pos (by rw [volsTo_length]; omega), ← volsTo_snoc, w64 (by omega) (by omega)]
        rfl
      | succ p ihp =>
        intro i hi
        have hil : i < D := by omega
        have hroom := row_room (s := S) hvK hil
        obtain ⟨q, hq⟩ : ∃ q : Nat, v * D + i = q := ⟨_, rfl⟩
        rw [hq] at hroom
        have hvD : v * D ≤ 96 * 64 := Nat.mul_le_mul (by omega) hD
        obtain ⟨z, hz⟩ : ∃ z : Nat, q * S = z := ⟨_, rfl⟩
        rw [hz] at hroom
        have b1 : v * D ≤ 9223372036854775807 := by omega
        have b2 : q ≤ 9223372036854775807 := by omega
        have b3 : z ≤ 9223372036854775807 := by omega
        have b4 : z + S ≤ 9223372036854775807 := by omega
        have p1 : (0 : Int) ≤ (z : Int) := by omega
        have p2 : (z : Int) ≤ ((z + S : Nat) : Int) := by omega
        have p3 : ((z + S : Nat) : Int) ≤ (x.size : Int) := by rw [hxs]; omega
        have p4 : (i : Int) < (D : Int) := by omega
        have p5 : (volTo all D S v i).length < 8796093022208 := by rw [volTo_length]; omega
        have p6 : wrap64 ((i : Int) + 1) = ((i + 1 : Nat) : Int) := w64n (by omega) (by omega)
        have e1 : wrap64 ((v : Int) * (D : Int)) = ((v * D : Nat) : Int) := w64n (Int.natCast_mul v D).symm b1
        have e2 : wrap64 (((v * D : Nat) : Int) + (i : Int)) = (q : Int) := w64n (by rw [← hq, Int.natCast_add]) b2
        have e3 : wrap64 ((q : Int) * (S : Int)) = (z : Int) := w64n (by rw [← hz, Int.natCast_mul]) b3
        have e4 : wrap64 ((z : Int) + (S : Int)) = ((z + S : Nat) : Int) := w64n (Int.natCast_add z S).symm b4
        have er : x.extract z (z + S) = rowL all S q := ba_ext (by rw [Lib.extract_data, hx, rowL_data, hz, Nat.add_sub_cancel_left])
        have hih := ihp (i + 1) (by rw [← hi]; omega)
        refine Ev.step (fun k => ?_) hih
        show hamperref26_Cut.l1 (k + 1) (K : Int) x _ (v : Int) _ (i : Int) D r S m = _
        conv => lhs; unfold hamperref26_Cut.l1
        rw [e1, e2, e3, e4, if_pos p4, if_pos p1, if_pos p2, if_pos p3, if_pos p5, p6, volTo_snoc, hq, Int.toNat_natCast, Int.toNat_natCast, er]
    refine Ev.step (fun k => ?_) (inner D 0 (by omega))
    show hamperref26_Cut.l0 (k + 1) (K : Int) x _ (v : Int) D r S m = _
    conv => lhs; unfold hamperref26_Cut.l0
    rw [if_pos (by omega)]
    rfl

theorem ref_cut (a : ByteArray) (d r s m : Int) (ha : a.size ≤ 140737488351232) : Ev (fun k => hamperref26_Cut.f k a d r s m) (cutB a d r s m) := by
  obtain ⟨K1, hc⟩ := ref_count_f (a.size : Int) d r s m
  by_cases h2 : (countB a.size d r s m).2 = 0
  · obtain ⟨hsh, hn, hk1, hk2, _, hroom⟩ := countB_ok h2
    have hb := shapeB_iff.1 hsh
    obtain ⟨D, rfl⟩ : ∃ D : Nat, d = (D : Int) := ⟨d.toNat, by omega⟩
    obtain ⟨S, rfl⟩ : ∃ S : Nat, s = (S : Int) := ⟨s.toNat, by omega⟩
    obtain ⟨K, hK⟩ : ∃ K : Nat, (countB a.size D r S m).1 = (K : Int) := ⟨((countB a.size D r S m).1).toNat, by omega⟩
    rw [hK] at hk1 hk2 hroom
    have hT : ((K * D * S : Nat) : Int) = (K : Int) * ((D : Int) * (S : Int)) := by rw [Int.natCast_mul, Int.natCast_mul, Int.mul_assoc]
    have hT8 : 8 + a.size ≤ K * D * S := by omega
    have hKD : K * D ≤ 96 * 64 := Nat.mul_le_mul (by omega) (by omega)
    have hTb : K * D * S ≤ 96 * 64 * 512 := Nat.mul_le_mul hKD (by omega)
    have hcut : cutB a D r S m = (volsTo (allL a.data.toList (K * D * S)) D S K, 0) := by
      unfold cutB
      rw [if_pos h2, hK]
      simp only [Int.toNat_natCast]
    have hcc : countB a.size D r S m = ((K : Int), 0) := by rw [← hK, ← h2]
    obtain ⟨K2, he⟩ := ref_eight a.size (by omega)
    obtain ⟨T, hTe⟩ : ∃ T : Nat, K * D * S = T := ⟨_, rfl⟩
    obtain ⟨x, hx⟩ : ∃ x : ByteArray, ((⟨(eightL a.size).toArray⟩ : ByteArray) ++ a) ++ strOfNums (List.replicate (T - (8 + a.size)) 0) = x := ⟨_, rfl⟩
    have hxl : x.data.toList = allL a.data.toList T := by
      rw [← hx, ByteArray.data_append, ByteArray.data_append, Array.toList_append, Array.toList_append, strOfNums_data]
      unfold allL
      rw [← Lib.size_eq, List.map_replicate]
      rfl
    have hal : (allL a.data.toList T).length = K * D * S := by rw [allL_length _ _ (by rw [← Lib.size_eq]; omega), hTe]
    obtain ⟨K3, hr⟩ := ref_cut_rows x (allL a.data.toList T) hxl K D S r m (by omega) (by omega) (by omega) hal K 0 (by omega)
    refine ⟨K1 + K2 + K3, fun k hk => ?_⟩
    have a1 := hc k (by omega)
    have a2 := he k (by omega)
    have a3 := hr k (by omega)
    simp only at a1 a2 a3
    show hamperref26_Cut.f k a D r S m = _
    have hs8 : ((⟨(eightL a.size).toArray⟩ : ByteArray) ++ a).size = 8 + a.size := by
      rw [ByteArray.size_append]
      rfl
    have b1 : K * D ≤ 9223372036854775807 := by omega
    have b2 : T ≤ 9223372036854775807 := by omega
    have b3 : T - (8 + a.size) ≤ 9223372036854775807 := by omega
    have b4 : (T : Int) - ((8 + a.size : Nat) : Int) = ((T - (8 + a.size) : Nat) : Int) := by omega
    have p1 : (⟨(eightL a.size).toArray⟩ : ByteArray).size + a.size ≤ 9223372036854775807 := by
      show 8 + a.size ≤ 9223372036854775807
      omega
    have p2 : (0 : Int) ≤ ((T - (8 + a.size) : Nat) : Int) := by omega
    have p3 : T - (8 + a.size) ≤ 281474976710656 := by omega
    have p4 : 8 + a.size + (strOfNums (List.replicate (T - (8 + a.size)) 0)).size ≤ 9223372036854775807 := by rw [strOfNums_size, List.length_replicate]; omega
    have e1 : wrap64 ((K : Int) * (D : Int)) = ((K * D : Nat) : Int) := w64n (Int.natCast_mul K D).symm b1
    have e2 : wrap64 (((K * D : Nat) : Int) * (S : Int)) = (T : Int) := w64n (by rw [← hTe, Int.natCast_mul (K * D) S]) b2
    have e3 : wrap64 ((T : Int) - ((8 + a.size : Nat) : Int)) = ((T - (8 + a.size) : Nat) : Int) := w64n b4 b3
    unfold hamperref26_Cut.f
    rw [a1, Option.bind_some, hcc, if_pos rfl, a2, Option.bind_some]
    simp only
    rw [hs8, e1, e2, e3]
    rw [if_pos p1, if_pos p2, Int.toNat_natCast, if_pos p3, Option.bind_some, if_pos p4, hx, hcut, hTe]
    exact a3
  · refine ⟨K1, fun k hk => ?_⟩
    have a1 := hc k (by omega)
    simp only at a1
    show hamperref26_Cut.f k a d r s m = _
    unfold hamperref26_Cut.f
    have hcut : cutB a d r s m = ([], (countB a.size d r s m).2) := by
      unfold cutB
      rw [if_neg h2]
    rw [a1, Option.bind_some, if_neg h2, hcut]
end Go.Proofs.YtnnkenbcdepafaaDoor.H

namespace Go.Proofs.YtnnkenbcdepafaaDoor.H
open Go.RowKit Go.Proofs.YtnnkenbcdepafaaDoorW.PrintWords Go.Proofs.YtnnkenbcdepafaaDoor.B
set_option linter.unusedVariables false

theorem rd2 (l : List (List ByteArray)) (i : Nat) (h : i < l.length) : rd_L2 l (i : Int) = l[i] := by
  unfold rd_L2
  rw [Int.toNat_natCast, List.getD_eq_getElem?_getD, List.getElem?_eq_getElem h]
  rfl
theorem rdo (l : List ByteArray) (i : Nat) (h : i < l.length) : rdOf ByteArray.empty l (i : Int) = l[i] := by
  unfold rdOf
  rw [Int.toNat_natCast, List.getD_eq_getElem?_getD, List.getElem?_eq_getElem h]
  rfl
theorem toList_eq {x y : ByteArray} : x.toList = y.toList ↔ x = y := by
  rw [Lib.toList_data, Lib.toList_data]
  exact ⟨ba_ext, fun h => by rw [h]⟩

theorem same_gen_loop (a b : List (List ByteArray)) (hl : a.length = b.length) (ha : a.length ≤ 8796093022208) (hr : ∀ rows ∈ a, rows.length ≤ 8796093022208) :
    ∀ (n i : Nat), i + n = a.length → ∃ q : Bool, Ev (fun k => hamperref26_Same.l0 k a b (i : Int)) q ∧ (q = true ↔ a.drop i = b.drop i) := by
  intro n
  induction n with
  | zero =>
    intro i hi
    refine ⟨true, Ev.step (f := fun _ => some true) (fun k => ?_) (Ev.now _), ?_⟩
    · show hamperref26_Same.l0 (k + 1) a b (i : Int) = _
      unfold hamperref26_Same.l0
      rw [if_neg (by omega)]
    · rw [List.drop_eq_nil_of_le (by omega), List.drop_eq_nil_of_le (by omega)]
      simp
  | succ n ih =>
    intro i hi
    have h1 : i < a.length := by omega
    have h2 : i < b.length := by omega
    have ea := rd2 a i h1
    have eb := rd2 b i h2
    obtain ⟨q1, hq1, hq1'⟩ := ih (i + 1) (by omega)
    have hrl : a[i].length ≤ 8796093022208 := hr _ (List.getElem_mem h1)
    have da : a.drop i = a[i] :: a.drop (i + 1) := List.drop_eq_getElem_cons h1
    have db : b.drop i = b[i] :: b.drop (i + 1) := List.drop_eq_getElem_cons h2
    by_cases hlen : a[i].length = b[i].length
    · have inner : ∀ (p j : Nat), j + p = a[i].length → ∃ q : Bool, Ev (fun k => hamperref26_Same.l1 k a b (i : Int) (j : Int)) q ∧ (q = true ↔ a[i].drop j = b[i].drop j ∧ a.drop (i + 1) = b.drop (i + 1)) := by
        intro p
        induction p with
        | zero =>
          intro j hj
          refine ⟨q1, Ev.step (fun k => ?_) hq1, ?_⟩
          · show hamperref26_Same.l1 (k + 1) a b (i : Int) (j : Int) = _
            conv => lhs; unfold hamperref26_Same.l1
            rw [if_pos (by omega), if_pos (by omega), ea, if_neg (by omega), w64 (by omega) (by omega)]
            rfl
          · rw [hq1', List.drop_eq_nil_of_le (show a[i].length ≤ j by omega), List.drop_eq_nil_of_le (show b[i].length ≤ j by omega)]
            simp
        | succ p ihp =>
          intro j hj
          have g1 : j < a[i].length := by omega
          have g2 : j < b[i].length := by omega
          obtain ⟨q2, hq2, hq2'⟩ := ihp (j + 1) (by omega)
          have fa : a[i].drop j = a[i][j] :: a[i].drop (j + 1) := List.drop_eq_getElem_cons g1
          have fb : b[i].drop j = b[i][j] :: b[i].drop (j + 1) := List.drop_eq_getElem_cons g2
          by_cases he : a[i][j] = b[i][j]
          · refine ⟨q2, Ev.step (fun k => ?_) hq2, ?_⟩
            · show hamperref26_Same.l1 (k + 1) a b (i : Int) (j : Int) = _
              conv => lhs; unfold hamperref26_Same.l1
              rw [if_pos (by omega), if_pos (by omega), ea, if_pos (by omega), if_pos (by omega), if_pos (by omega), eb, if_pos (by omega), rdo _ _ g1, rdo _ _ g2, if_pos (by rw [he]), w64 (by omega) (by omega)]
              rfl
            · rw [hq2', fa, fb, he]
              exact ⟨fun h => ⟨by rw [h.1], h.2⟩, fun h => ⟨(List.cons.inj h.1).2, h.2⟩⟩
          · refine ⟨false, Ev.step (f := fun _ => some false) (fun k => ?_) (Ev.now _), ?_⟩
            · show hamperref26_Same.l1 (k + 1) a b (i : Int) (j : Int) = _
              conv => lhs; unfold hamperref26_Same.l1
              rw [if_pos (by omega), if_pos (by omega), ea, if_pos (by omega), if_pos (by omega), if_pos (by omega), eb, if_pos (by omega), rdo _ _ g1, rdo _ _ g2, if_neg (fun h => he (toList_eq.1 h))]
            · rw [fa, fb]
              constructor
              · intro h
                cases h
              · rintro ⟨h, _⟩
                exact absurd (List.cons.inj h).1 he
      obtain ⟨q, hq, hq'⟩ := inner a[i].length 0 (by omega)
      refine ⟨q, Ev.step (fun k => ?_) hq, ?_⟩
      · show hamperref26_Same.l0 (k + 1) a b (i : Int) = _
        conv => lhs; unfold hamperref26_Same.l0
        rw [if_pos (by omega), if_pos (by omega), if_pos (by omega), ea, eb, if_pos (by omega)]
        rfl
      · rw [hq', da, db, List.drop_zero, List.drop_zero]
        exact ⟨fun h => by rw [h.1, h.2], fun h => List.cons.inj h⟩
    · refine ⟨false, Ev.step (f := fun _ => some false) (fun k => ?_) (Ev.now _), ?_⟩
      · show hamperref26_Same.l0 (k + 1) a b (i : Int) = _
        conv => lhs; unfold hamperref26_Same.l0
        rw [if_pos (by omega), if_pos (by omega), if_pos (by omega), ea, eb, if_neg (by omega)]
      · rw [da, db]
        constructor
        · intro h
          cases h
        · intro h
          exact absurd (congrArg List.length (List.cons.inj h).1) hlen
theorem same_gen (a b : List (List ByteArray)) (ha : a.length ≤ 8796093022208) (hr : ∀ rows ∈ a, rows.length ≤ 8796093022208) : ∃ q : Bool, Ev (fun k => hamperref26_Same.f k a b) q ∧ (q = true ↔ a = b) := by
  by_cases hl : a.length = b.length
  · obtain ⟨q, hq, hq'⟩ := same_gen_loop a b hl ha hr a.length 0 (by omega)
    refine ⟨q, Ev.congr (fun k => ?_) hq, hq'⟩
    show hamperref26_Same.f k a b = _
    unfold hamperref26_Same.f
    rw [if_pos (by omega)]
    rfl
  · refine ⟨false, Ev.congr (f := fun _ => some false) (fun k => ?_) (Ev.now _), ?_⟩
    · show hamperref26_Same.f k a b = _
      unfold hamperref26_Same.f
      rw [if_neg (by omega)]
    · constructor
      · intro h
        cases h
      · intro h
        exact absurd (congrArg List.length h) hl
end Go.Proofs.YtnnkenbcdepafaaDoor.H

namespace Go.Proofs.YtnnkenbcdepafaaDoor.H
open Go.RowKit Go.Proofs.YtnnkenbcdepafaaDoorW.PrintWords Go.Proofs.YtnnkenbcdepafaaDoor.B
set_option linter.unusedVariables false

theorem numTo_mono (L : List UInt8) (j : Nat) : ∀ n : Nat, numTo L j ≤ numTo L (j + n)
  | 0 => Nat.le_refl _
  | n + 1 => by
    have := numTo_mono L j n
    rw [← Nat.add_assoc, numTo]
    omega
theorem btL (x : ByteArray) (L : List UInt8) (h : x.data.toList = L) (j : Nat) (hj : j < L.length) : bt x (j : Int) = ((L.getD j 0).toNat : Int) := by
  have hs : j < x.size := by rw [Lib.size_eq, h]; exact hj
  unfold bt
  rw [dif_pos (by simpa using hs)]
  simp only [Int.toNat_natCast]
  congr 2
  subst h
  rw [List.getD_eq_getElem?_getD, Array.getElem?_toList]
  have : x.data[j]? = some (x[j]'hs) := Array.getElem?_eq_getElem hs
  rw [this]
  rfl
theorem join_bad {vs : List (List ByteArray)} {d r s m : Int} (hsh : shapeB d r s m = true) (h : joinOk vs d r s m = false) : joinB vs d r s m = (⟨#[]⟩, 4) := by
  unfold joinB
  rw [if_pos hsh, h]
  rfl
theorem not_ok_num {vs : List (List ByteArray)} {d r s m : Int} (h : ¬ (8 ≤ (bytesL vs).length ∧ numTo (bytesL vs) 8 ≤ (bytesL vs).length - 8)) : joinOk vs d r s m = false := by
  unfold joinOk
  rw [decide_eq_false h]
  simp
theorem not_ok_shape {vs : List (List ByteArray)} {d r s m : Int} (h : shapedB vs d s = false) : joinOk vs d r s m = false := by
  unfold joinOk
  rw [h]
  rfl

/-- All bytes are there: the number, the stream, and whether its cut is the volumes. -/
theorem ref_join_end (vs : List (List ByteArray)) (D S : Nat) (r m : Int) (hv : vs.length ≤ 1000) (hsh : shapeB D r S m = true) (x : ByteArray) (hx : x.data.toList = bytesL vs) (hb : (bytesL vs).length ≤ 100000000) (h8 : 8 ≤ (bytesL vs).length)
    (hfit : numTo (bytesL vs) 8 ≤ (bytesL vs).length - 8) :
    Ev (fun k => hamperref26_Join.l2 k vs x (numTo (bytesL vs) 8 : Int) 8 D r S m) (joinB vs D r S m) := by
  have hxs : x.size = (bytesL vs).length := by rw [Lib.size_eq, hx]
  obtain ⟨nn, hnn⟩ : ∃ nn, numTo (bytesL vs) 8 = nn := ⟨_, rfl⟩
  obtain ⟨st, hst⟩ : ∃ st, x.extract 8 (8 + nn) = st := ⟨_, rfl⟩
  have hstl : st.data.toList = streamL vs := by
    unfold streamL
    rw [hnn, ← hst, Lib.extract_data, hx]
    simp [List.take_drop]
  have hste : st = ⟨(streamL vs).toArray⟩ := ba_ext (by rw [hstl])
  have hsts : st.size = nn := by rw [← hst, ByteArray.size_extract]; omega
  rw [hnn] at hfit ⊢
  have hbs := shapeB_iff.1 hsh
  obtain ⟨K1, hc⟩ := ref_cut st D r S m (by omega)
  have w1 : wrap64 ((x.size : Int) - 8) = ((x.size - 8 : Nat) : Int) := w64n (by omega) (by omega)
  have w2 : wrap64 (8 + (nn : Int)) = ((8 + nn : Nat) : Int) := w64n (by omega) (by omega)
  have p1 : ¬ ((nn : Int) > ((x.size - 8 : Nat) : Int)) := by clear w1 w2; omega
  have p2 : (8 : Int) ≤ ((8 + nn : Nat) : Int) := by clear w1 w2; omega
  have p3 : ((8 + nn : Nat) : Int) ≤ (x.size : Int) := by clear w1 w2; omega
  have go : ∀ k, hamperref26_Join.l2 (k + 1) vs x (nn : Int) 8 D r S m = (hamperref26_Cut.f k st D r S m).bind fun bt140 => (if bt140.2 = 0 then ((hamperref26_Same.f k bt140.1 vs).bind fun t144 => (if t144 = true then (some (st, 0)) else (some ((⟨#[]⟩ : ByteArray), 4)))) else (some ((⟨#[]⟩ : ByteArray), 4))) := fun k => by
    conv => lhs; unfold hamperref26_Join.l2
    rw [if_neg (by decide), w1, if_neg p1, w2, if_pos p2, if_pos p3, Int.toNat_natCast, hst]
  by_cases h2 : (countB st.size D r S m).2 = 0
  · obtain ⟨_, _, hk1, hk2, _, hroom⟩ := countB_ok h2
    obtain ⟨K, hK⟩ : ∃ K : Nat, (countB st.size D r S m).1 = (K : Int) := ⟨((countB st.size D r S m).1).toNat, by omega⟩
    rw [hK] at hk1 hk2 hroom
    have hT : ((K * D * S : Nat) : Int) = (K : Int) * ((D : Int) * (S : Int)) := by rw [Int.natCast_mul, Int.natCast_mul, Int.mul_assoc]
    have hT8 : 8 + st.size ≤ K * D * S := by clear w1 w2 p1 p2 p3; omega
    have hcc : countB st.size D r S m = ((K : Int), 0) := by rw [← hK, ← h2]
    have hcut : cutB st D r S m = (volsTo (allL st.data.toList (K * D * S)) D S K, 0) := by
      unfold cutB
      rw [if_pos h2, hK]
      simp only [Int.toNat_natCast]
    obtain ⟨q, ⟨K2, hs⟩, hq⟩ := same_gen (volsTo (allL st.data.toList (K * D * S)) D S K) vs (by rw [volsTo_length]; clear w1 w2; omega) (fun rows hr => by
      unfold volsTo at hr
      obtain ⟨v, _, rfl⟩ := List.mem_map.1 hr
      rw [volTo_length]
      clear w1 w2
      omega)
    refine ⟨K1 + K2 + 1, fun k hk => ?_⟩
    obtain ⟨j, rfl⟩ : ∃ j, k = j + 1 := ⟨k - 1, by omega⟩
    have a1 := hc j (by omega)
    have a2 := hs j (by omega)
    simp only at a1 a2
    show hamperref26_Join.l2 (j + 1) vs x (nn : Int) 8 D r S m = _
    rw [go, a1, Option.bind_some, hcut, if_pos rfl, a2, Option.bind_some]
    cases q with
    | true =>
      have e := hq.1 rfl
      have hj := join_cut (a := st) (r := r) (m := m) (D := D) (S := S) (K := K) (by clear w1 w2; omega) hsh hcc hT8
      rw [e] at hj
      rw [hj]
      rfl
    | false =>
      have hno : joinOk vs D r S m = false := by
        cases hok : joinOk vs D r S m with
        | false => rfl
        | true =>
          exfalso
          have := cut_join hsh hok
          rw [← hste, hcut] at this
          have := hq.2 (Prod.mk.inj this).1
          cases this
      rw [join_bad hsh hno]
      rfl
  · have hno : joinOk vs D r S m = false := by
      cases hok : joinOk vs D r S m with
      | false => rfl
      | true =>
        exfalso
        have hcj := cut_join hsh hok
        rw [← hste] at hcj
        unfold cutB at hcj
        rw [if_neg h2] at hcj
        exact h2 (Prod.mk.inj hcj).2
    have hcut : cutB st D r S m = ([], (countB st.size D r S m).2) := by
      unfold cutB
      rw [if_neg h2]
    refine ⟨K1 + 1, fun k hk => ?_⟩
    obtain ⟨j, rfl⟩ : ∃ j, k = j + 1 := ⟨k - 1, by omega⟩
    have a1 := hc j (by omega)
    simp only at a1
    show hamperref26_Join.l2 (j + 1) vs x (nn : Int) 8 D r S m = _
    rw [go, a1, Option.bind_some, hcut, if_neg h2, join_bad hsh hno]

theorem ref_join_num (vs : List (List ByteArray)) (D S : Nat) (r m : Int) (hv : vs.length ≤ 1000) (hsh : shapeB D r S m = true) (x : ByteArray) (hx : x.data.toList = bytesL vs) (hb : (bytesL vs).length ≤ 100000000) (h8 : 8 ≤ (bytesL vs).length) :
    ∀ (n j : Nat), j + n = 8 → numTo (bytesL vs) j ≤ (bytesL vs).length → Ev (fun k => hamperref26_Join.l2 k vs x (numTo (bytesL vs) j : Int) (j : Int) D r S m) (joinB vs D r S m) := by
  have hxs : x.size = (bytesL vs).length := by rw [Lib.size_eq, hx]
  intro n
  induction n with
  | zero =>
    intro j hj hle
    obtain rfl : j = 8 := by omega
    by_cases hfit : numTo (bytesL vs) 8 ≤ (bytesL vs).length - 8
    · exact ref_join_end vs D S r m hv hsh x hx hb h8 hfit
    · rw [join_bad hsh (not_ok_num (fun h => hfit h.2))]
      refine Ev.step (f := fun _ => some ((⟨#[]⟩ : ByteArray), 4)) (fun k => ?_) (Ev.now _)
      show hamperref26_Join.l2 (k + 1) vs x (numTo (bytesL vs) 8 : Int) ((8 : Nat) : Int) D r S m = _
      have w1 : wrap64 ((x.size : Int) - 8) = ((x.size - 8 : Nat) : Int) := w64n (by omega) (by omega)
      have p1 : ((numTo (bytesL vs) 8 : Nat) : Int) > ((x.size - 8 : Nat) : Int) := by clear w1; omega
      conv => lhs; unfold hamperref26_Join.l2
      rw [if_neg (by decide), w1, if_pos p1]
  | succ n ih =>
    intro j hj hle
    have hg := btL x _ hx j (by omega)
    have hb2 := (List.getD (bytesL vs) j 0).toNat_lt
    have hsucc : numTo (bytesL vs) (j + 1) = numTo (bytesL vs) j * 256 + ((bytesL vs).getD j 0).toNat := rfl
    obtain ⟨u, hu⟩ : ∃ u, numTo (bytesL vs) j = u := ⟨_, rfl⟩
    obtain ⟨c, hcc⟩ : ∃ c : Nat, ((bytesL vs).getD j 0).toNat = c := ⟨_, rfl⟩
    obtain ⟨v, hvv⟩ : ∃ v : Nat, numTo (bytesL vs) (j + 1) = v := ⟨_, rfl⟩
    rw [hu, hcc, hvv] at hsucc
    rw [hcc] at hg hb2
    rw [hu] at hle ⊢
    have hmono := numTo_mono (bytesL vs) (j + 1) (7 - j)
    rw [show j + 1 + (7 - j) = 8 by omega, hvv] at hmono
    have hjn : j + 1 + n = 8 := by omega
    have p1 : (j : Int) < 8 := by omega
    have p2 : (0 : Int) ≤ (j : Int) := by omega
    have p3 : (j : Int) < (x.size : Int) := by omega
    have w4 : wrap64 ((j : Int) + 1) = ((j + 1 : Nat) : Int) := w64n (by omega) (by omega)
    have w1 : wrap64 ((u : Int) * 256) = ((u * 256 : Nat) : Int) := w64n (by omega) (by clear w4; omega)
    have w2 : wrap64 (bt x (j : Int)) = (c : Int) := w64n hg (by clear w4 w1; omega)
    have w3 : wrap64 (((u * 256 : Nat) : Int) + (c : Int)) = (v : Int) := w64n (by clear w4 w1 w2; omega) (by clear w4 w1 w2; omega)
    by_cases hbig : v > x.size
    · have hno : ¬ (8 ≤ (bytesL vs).length ∧ numTo (bytesL vs) 8 ≤ (bytesL vs).length - 8) := by
        have := hmono
        clear w1 w2 w3 w4
        omega
      rw [join_bad hsh (not_ok_num hno)]
      refine Ev.step (f := fun _ => some ((⟨#[]⟩ : ByteArray), 4)) (fun k => ?_) (Ev.now _)
      show hamperref26_Join.l2 (k + 1) vs x (u : Int) (j : Int) D r S m = _
      conv => lhs; unfold hamperref26_Join.l2
      rw [if_pos p1, if_pos p2, if_pos p3, w1, w2, w3, if_pos (by clear w1 w2 w3 w4; omega)]
    · have hih := ih (j + 1) hjn (by rw [hvv]; clear w1 w2 w3 w4; omega)
      rw [hvv] at hih
      refine Ev.step (fun k => ?_) hih
      show hamperref26_Join.l2 (k + 1) vs x (u : Int) (j : Int) D r S m = _
      conv => lhs; unfold hamperref26_Join.l2
      rw [if_pos p1, if_pos p2, if_pos p3, w1, w2, w3, if_neg (by clear w1 w2 w3 w4; omega), w4]
end Go.Proofs.YtnnkenbcdepafaaDoor.H

namespace Go.Proofs.YtnnkenbcdepafaaDoor.H
open Go.RowKit Go.Proofs.YtnnkenbcdepafaaDoorW.PrintWords Go.Proofs.YtnnkenbcdepafaaDoor.B
set_option linter.unusedVariables false

theorem rowsL_snoc (l : List ByteArray) (x : ByteArray) : rowsL (l ++ [x]) = rowsL l ++ x.data.toList := by
  simp [rowsL]
theorem ref_join_rows (vs : List (List ByteArray)) (D S : Nat) (r m : Int) (hv : vs.length ≤ 1000) (hsh : shapeB D r S m = true) :
    ∀ (n i : Nat) (x : ByteArray), i + n = vs.length → shapedB (vs.take i) D S = true → x.data.toList = bytesL (vs.take i) → Ev (fun k => hamperref26_Join.l0 k vs x (i : Int) D r S m) (joinB vs D r S m) := by
  have hbs := shapeB_iff.1 hsh
  have hD : D ≤ 64 := by omega
  have hS : S ≤ 512 := by omega
  have hDS : D * S ≤ 64 * 512 := Nat.mul_le_mul hD hS
  intro n
  induction n with
  | zero =>
    intro i x hi hsp hx
    obtain rfl : i = vs.length := by omega
    rw [List.take_length] at hsp hx
    have hlen := bytesL_length hsp
    have hb : (bytesL vs).length ≤ 1000 * (64 * 512) := by rw [hlen]; exact Nat.mul_le_mul hv hDS
    have hxs : x.size = (bytesL vs).length := by rw [Lib.size_eq, hx]
    by_cases h8 : 8 ≤ (bytesL vs).length
    · refine Ev.step (fun k => ?_) (ref_join_num vs D S r m hv hsh x hx (by omega) h8 8 0 rfl (Nat.zero_le _))
      show hamperref26_Join.l0 (k + 1) vs x (vs.length : Int) D r S m = _
      conv => lhs; unfold hamperref26_Join.l0
      rw [if_neg (by omega), if_neg (by omega)]
      rfl
    · rw [join_bad hsh (not_ok_num (fun h => h8 h.1))]
      refine Ev.step (f := fun _ => some ((⟨#[]⟩ : ByteArray), 4)) (fun k => ?_) (Ev.now _)
      show hamperref26_Join.l0 (k + 1) vs x (vs.length : Int) D r S m = _
      conv => lhs; unfold hamperref26_Join.l0
      rw [if_neg (by omega), if_pos (by omega)]
  | succ n ih =>
    intro i x hi hsp hx
    have h1 : i < vs.length := by omega
    have hst := shapedB_take h1 hsp
    have e0 : vs.getD i [] = vs[i] := by rw [List.getD_eq_getElem?_getD, List.getElem?_eq_getElem h1, Option.getD_some]
    rw [e0] at hst
    have er := rd2 vs i h1
    have hbt := bytesL_take h1
    rw [e0] at hbt
    obtain ⟨rows, hrows⟩ : ∃ rows, vs[i] = rows := ⟨_, rfl⟩
    rw [hrows] at hst er hbt
    have hlen := bytesL_length hsp
    have hmi : min i vs.length ≤ 1000 := by omega
    have hbl : (bytesL (vs.take i)).length ≤ 1000 * (64 * 512) := by
      rw [hlen, List.length_take]
      exact Nat.mul_le_mul hmi hDS
    by_cases hrl : rows.length = D
    · have inner : ∀ (p j : Nat) (x : ByteArray), j + p = D → (∀ row ∈ rows.take j, row.size = S) → x.data.toList = bytesL (vs.take i) ++ rowsL (rows.take j) → Ev (fun k => hamperref26_Join.l1 k vs x (i : Int) (j : Int) D r S m) (joinB vs D r S m) := by
        intro p
        induction p with
        | zero =>
          intro j x hj hall hx
          obtain rfl : j = D := by omega
          have ht : rows.take j = rows := List.take_of_length_le (by omega)
          rw [ht] at hall hx
          have hok : shapedB (vs.take (i + 1)) j S = true := by
            rw [hst, decide_eq_true (show ((rows.length : Int) = (j : Int)) by omega), Bool.true_and, Bool.not_eq_true', List.any_eq_false]
            intro row hrow
            rw [hall row hrow]
            simp
          have hih := ih (i + 1) x (by omega) hok (by rw [hx, hbt])
          have w : wrap64 ((i : Int) + 1) = ((i + 1 : Nat) : Int) := w64n (by omega) (by omega)
          refine Ev.step (fun k => ?_) hih
          show hamperref26_Join.l1 (k + 1) vs x (i : Int) (j : Int) j r S m = _
          conv => lhs; unfold hamperref26_Join.l1
          rw [if_neg (by clear w; omega), w]
        | succ p ihp =>
          intro j x hj hall hx
          have g1 : j < rows.length := by omega
          have ero := rdo rows j g1
          have hrt : rows.take (j + 1) = rows.take j ++ [rows[j]] := by
            rw [List.take_add_one, List.getElem?_eq_getElem g1]
            rfl
          have hrj := rowsL_length hall
          have hxs : x.size ≤ 40000000 := by
            rw [Lib.size_eq, hx, List.length_append, hrj, List.length_take]
            have : min j rows.length * S ≤ 64 * 512 := Nat.mul_le_mul (by omega) hS
            omega
          have p1 : (j : Int) < (D : Int) := by omega
          have p2 : (0 : Int) ≤ (i : Int) := by omega
          have p3 : (i : Int) < (vs.length : Int) := by omega
          have p4 : (0 : Int) ≤ (j : Int) := by omega
          have p5 : (j : Int) < (rows.length : Int) := by omega
          by_cases hsz : rows[j].size = S
          · have p6 : ((rows[j].size : Nat) : Int) = (S : Int) := by omega
            have p7 : x.size + rows[j].size ≤ 9223372036854775807 := by omega
            have hih := ihp (j + 1) (x ++ rows[j]) (by omega) (by
              rw [hrt]
              intro row hrow
              rcases List.mem_append.1 hrow with h | h
              · exact hall row h
              · simp at h
                rw [h]
                exact hsz) (by rw [ByteArray.data_append, Array.toList_append, hx, hrt, rowsL_snoc, List.append_assoc])
            have w : wrap64 ((j : Int) + 1) = ((j + 1 : Nat) : Int) := w64n (by omega) (by omega)
            refine Ev.step (fun k => ?_) hih
            show hamperref26_Join.l1 (k + 1) vs x (i : Int) (j : Int) D r S m = _
            conv => lhs; unfold hamperref26_Join.l1
            rw [if_pos p1, if_pos p2, if_pos p3, if_pos p4, er, if_pos p5, ero, if_pos p6, if_pos p7, w]
          · have p6 : ¬ ((rows[j].size : Nat) : Int) = (S : Int) := by omega
            have hno : shapedB vs D S = false := shapedB_stop (i := i + 1) (by
              rw [hst]
              have : (rows.any fun row => decide ((row.size : Int) ≠ (S : Int))) = true := List.any_eq_true.2 ⟨rows[j], List.getElem_mem g1, decide_eq_true p6⟩
              rw [this]
              simp)
            rw [join_bad hsh (not_ok_shape hno)]
            refine Ev.step (f := fun _ => some ((⟨#[]⟩ : ByteArray), 4)) (fun k => ?_) (Ev.now _)
            show hamperref26_Join.l1 (k + 1) vs x (i : Int) (j : Int) D r S m = _
            conv => lhs; unfold hamperref26_Join.l1
            rw [if_pos p1, if_pos p2, if_pos p3, if_pos p4, er, if_pos p5, ero, if_neg p6]
      refine Ev.step (fun k => ?_) (inner D 0 x (by omega) (by simp) (by rw [hx]; simp [rowsL]))
      show hamperref26_Join.l0 (k + 1) vs x (i : Int) D r S m = _
      conv => lhs; unfold hamperref26_Join.l0
      rw [if_pos (by omega), if_pos (by omega), er, if_pos (by omega)]
      rfl
    · have hno : shapedB vs D S = false := shapedB_stop (i := i + 1) (by rw [hst, decide_eq_false (show ¬ ((rows.length : Int) = (D : Int)) by omega)]; rfl)
      rw [join_bad hsh (not_ok_shape hno)]
      refine Ev.step (f := fun _ => some ((⟨#[]⟩ : ByteArray), 4)) (fun k => ?_) (Ev.now _)
      show hamperref26_Join.l0 (k + 1) vs x (i : Int) D r S m = _
      conv => lhs; unfold hamperref26_Join.l0
      rw [if_pos (by omega), if_pos (by omega), er, if_neg (by omega)]
theorem ref_join (vs : List (List ByteArray)) (d r s m : Int) (hv : vs.length ≤ 1000) : Ev (fun k => hamperref26_Join.f k vs d r s m) (joinB vs d r s m) := by
  by_cases hsh : shapeB d r s m = true
  · have hb := shapeB_iff.1 hsh
    obtain ⟨D, rfl⟩ : ∃ D : Nat, d = (D : Int) := ⟨d.toNat, by omega⟩
    obtain ⟨S, rfl⟩ : ∃ S : Nat, s = (S : Int) := ⟨s.toNat, by omega⟩
    refine Ev.congr (fun k => ?_) (ref_join_rows vs D S r m hv hsh vs.length 0 ⟨#[]⟩ (by omega) rfl rfl)
    show hamperref26_Join.f k vs D r S m = _
    unfold hamperref26_Join.f
    rw [ref_shape_f, hsh, Option.bind_some, if_pos rfl]
    rfl
  · have hsh' : shapeB d r s m = false := by simpa using hsh
    have hj : joinB vs d r s m = (⟨#[]⟩, 1) := by
      unfold joinB
      rw [if_neg hsh]
    rw [hj]
    refine Ev.congr (f := fun _ => some ((⟨#[]⟩ : ByteArray), 1)) (fun k => ?_) (Ev.now _)
    show hamperref26_Join.f k vs d r s m = _
    unfold hamperref26_Join.f
    rw [ref_shape_f, hsh', Option.bind_some, if_neg (by decide)]
end Go.Proofs.YtnnkenbcdepafaaDoor.H
