/- Joined is what was cut, and cut again what was joined; whether volumes are more than a law goes over, and whether volumes are the same: over plain words. -/
import Derived.Test.YtnnkenbcdepafaaDoorB
import Derived.Test.YtnnkenbcdepafaaDoorHCount
import Derived.Test.YtnnkenbcdepafaaDoorHJS
namespace Go.Proofs.YtnnkenbcdepafaaDoor.H
open Go.RowKit Go.Proofs.YtnnkenbcdepafaaDoorW.PrintWords Go.Proofs.YtnnkenbcdepafaaDoor.B
set_option linter.unusedVariables false

theorem rowL_data (all : List UInt8) (S q : Nat) : (rowL all S q).data.toList = (all.drop (q * S)).take S := rfl
theorem volTo_bytes (all : List UInt8) (D S v : Nat) : ∀ i : Nat, (v * D + i) * S ≤ all.length → all.take (v * D * S) ++ rowsL (volTo all D S v i) = all.take ((v * D + i) * S)
  | 0, _ => by simp [volTo, rowsL]
  | i + 1, h => by
    have h1 : (v * D + i) * S ≤ all.length := Nat.le_trans (Nat.mul_le_mul_right S (by omega)) h
    have ih := volTo_bytes all D S v i h1
    rw [volTo_snoc]
    unfold rowsL at ih ⊢
    rw [List.map_append, List.flatten_append, ← List.append_assoc, ih]
    simp only [List.map_cons, List.map_nil, List.flatten_cons, List.flatten_nil, List.append_nil, rowL_data]
    rw [← List.take_add, ← Nat.add_assoc, Nat.add_mul (v * D + i) 1 S, Nat.one_mul]
theorem volsTo_bytes (all : List UInt8) (D S : Nat) : ∀ v : Nat, v * D * S ≤ all.length → bytesL (volsTo all D S v) = all.take (v * D * S)
  | 0, _ => by simp [volsTo, bytesL]
  | v + 1, h => by
    have e : (v + 1) * D = v * D + D := by rw [Nat.add_mul, Nat.one_mul]
    rw [e] at h ⊢
    have h1 : v * D * S ≤ all.length := Nat.le_trans (Nat.mul_le_mul_right S (by omega)) h
    rw [volsTo_snoc, bytesL_snoc, volsTo_bytes all D S v h1, volTo_bytes all D S v D h]
theorem rowL_size (all : List UInt8) (S q : Nat) (h : (q + 1) * S ≤ all.length) : (rowL all S q).size = S := by
  rw [Lib.size_eq, rowL_data, List.length_take, List.length_drop]
  rw [Nat.add_mul] at h
  omega
theorem volsTo_shaped (all : List UInt8) (D S K : Nat) (h : K * D * S ≤ all.length) : shapedB (volsTo all D S K) D S = true := by
  unfold shapedB
  rw [List.all_eq_true]
  intro rows hr
  unfold volsTo at hr
  obtain ⟨v, hv, rfl⟩ := List.mem_map.1 hr
  have hv := List.mem_range.1 hv
  rw [volTo_length, decide_eq_true rfl, Bool.true_and, Bool.not_eq_true', List.any_eq_false]
  intro row hrow
  unfold volTo at hrow
  obtain ⟨i, hi, rfl⟩ := List.mem_map.1 hrow
  have hi := List.mem_range.1 hi
  have hroom := row_room (s := S) hv hi
  rw [rowL_size _ _ _ (by rw [Nat.add_mul, Nat.one_mul]; omega)]
  simp

theorem numTo_eight (n : Nat) (hn : n < 18446744073709551616) (L : List UInt8) : numTo (eightL n ++ L) 8 = n := by
  have e : ∀ m : Nat, (UInt8.ofNat m).toNat = m % 256 := fun m => by simp [UInt8.toNat_ofNat']
  simp only [numTo, eightL, List.cons_append, List.nil_append, List.getD_cons_zero, List.getD_cons_succ, e]
  omega
theorem numTo_append (l r : List UInt8) : ∀ k : Nat, k ≤ l.length → numTo (l ++ r) k = numTo l k
  | 0, _ => rfl
  | k + 1, h => by
    rw [numTo, numTo, numTo_append l r k (by omega), List.getD_eq_getElem?_getD, List.getD_eq_getElem?_getD, List.getElem?_append_left (by omega)]
theorem eight_numTo (l : List UInt8) (h : l.length = 8) : eightL (numTo l 8) = l := by
  match l, h with
  | [a, b, c, d, e, f, g, i], _ =>
    have ha := a.toNat_lt
    have hb := b.toNat_lt
    have hc := c.toNat_lt
    have hd := d.toNat_lt
    have he := e.toNat_lt
    have hf := f.toNat_lt
    have hg := g.toNat_lt
    have hi := i.toNat_lt
    simp only [numTo, eightL, List.getD_cons_zero, List.getD_cons_succ]
    have q : ∀ (x : UInt8) (m : Nat), m % 256 = x.toNat → UInt8.ofNat m = x := fun x m hm => UInt8.toNat_inj.1 (by simp [UInt8.toNat_ofNat']; omega)
    rw [q a _ (by omega), q b _ (by omega), q c _ (by omega), q d _ (by omega), q e _ (by omega), q f _ (by omega), q g _ (by omega), q i _ (by omega)]

/-- Join of Cut is the stream. -/
theorem join_cut {a : ByteArray} {r m : Int} {D S K : Nat} (ha : a.size ≤ 140737488351232) (hsh : shapeB D r S m = true) (hc : countB a.size D r S m = ((K : Int), 0)) (hT : 8 + a.size ≤ K * D * S) :
    joinB (volsTo (allL a.data.toList (K * D * S)) D S K) D r S m = (a, 0) := by
  have hl : (allL a.data.toList (K * D * S)).length = K * D * S := allL_length _ _ (by rw [← Lib.size_eq]; exact hT)
  have hb : bytesL (volsTo (allL a.data.toList (K * D * S)) D S K) = allL a.data.toList (K * D * S) := by
    rw [volsTo_bytes _ _ _ _ (by omega), List.take_of_length_le (by omega)]
  have hnum : numTo (allL a.data.toList (K * D * S)) 8 = a.size := by
    unfold allL
    rw [List.append_assoc, numTo_eight _ (by rw [← Lib.size_eq]; omega), ← Lib.size_eq]
  have hst : streamL (volsTo (allL a.data.toList (K * D * S)) D S K) = a.data.toList := by
    unfold streamL
    rw [hb, hnum]
    unfold allL
    rw [List.append_assoc, List.drop_left' (eightL_length _), Lib.size_eq, List.take_left]
  have hre : (restL (volsTo (allL a.data.toList (K * D * S)) D S K)).all (· == 0) = true := by
    unfold restL
    rw [hb, hnum]
    unfold allL
    rw [List.drop_left' (by rw [List.length_append, eightL_length, ← Lib.size_eq]), List.all_eq_true]
    intro x hx
    rw [List.eq_of_mem_replicate hx]
    rfl
  have hok : joinOk (volsTo (allL a.data.toList (K * D * S)) D S K) D r S m = true := by
    unfold joinOk
    rw [volsTo_shaped _ _ _ _ (by omega), hb, hl, hnum, hst, hre, ← Lib.size_eq, hc, volsTo_length, decide_eq_true (show (8 ≤ K * D * S ∧ a.size ≤ K * D * S - 8) by omega), decide_eq_true rfl]
    rfl
  unfold joinB
  rw [if_pos hsh, if_pos hok, hst]

/-- The rows of volumes, found again in their bytes. -/
theorem bytes_rows {D S : Nat} : ∀ {vs : List (List ByteArray)}, shapedB vs D S = true → ∀ (v i : Nat) (h1 : v < vs.length) (h2 : i < D), ((bytesL vs).drop ((v * D + i) * S)).take S = ((vs.getD v []).getD i ⟨#[]⟩).data.toList
  | [], _, v, i, h1, _ => absurd h1 (Nat.not_lt_zero _)
  | rows :: vs, h, v, i, h1, h2 => by
    unfold shapedB at h
    rw [List.all_cons, Bool.and_eq_true, Bool.and_eq_true] at h
    obtain ⟨⟨h3, h4⟩, h5⟩ := h
    have hD : rows.length = D := by have := of_decide_eq_true h3; omega
    have hrs := any_size (S := S) (rows := rows) (by simpa using h4)
    have hlen := rowsL_length hrs
    rw [hD] at hlen
    have e : bytesL (rows :: vs) = rowsL rows ++ bytesL vs := by simp [bytesL]
    rw [e]
    cases v with
    | zero =>
      have inner : ∀ (l : List ByteArray) (r : List UInt8) (j : Nat), (∀ row ∈ l, row.size = S) → j < l.length → ((rowsL l ++ r).drop (j * S)).take S = (l.getD j ⟨#[]⟩).data.toList := by
        intro l r j
        induction l generalizing j with
        | nil => intro _ hj; exact absurd hj (Nat.not_lt_zero _)
        | cons x l ih =>
          intro hl hj
          have hx : x.data.toList.length = S := by rw [← Lib.size_eq]; exact hl x List.mem_cons_self
          have e2 : rowsL (x :: l) = x.data.toList ++ rowsL l := by simp [rowsL]
          rw [e2, List.append_assoc]
          cases j with
          | zero => simp [hx]
          | succ j =>
            rw [Nat.add_mul, Nat.one_mul, Nat.add_comm (j * S) S, ← List.drop_drop, List.drop_left' hx]
            exact ih j (fun y hy => hl y (List.mem_cons_of_mem _ hy)) (by simpa using hj)
      have := inner rows (bytesL vs) i hrs (by omega)
      rw [Nat.zero_mul, Nat.zero_add]
      exact this
    | succ v =>
      have ih := bytes_rows (vs := vs) (by unfold shapedB; exact h5) v i (by simpa using h1) h2
      rw [show ((v + 1) * D + i) * S = D * S + (v * D + i) * S by rw [Nat.add_mul v 1 D, Nat.one_mul, ← Nat.add_mul]; congr 1; omega, ← List.drop_drop, List.drop_left' hlen]
      exact ih
theorem rows_again {vs : List (List ByteArray)} {D S : Nat} (h : shapedB vs D S = true) : volsTo (bytesL vs) D S vs.length = vs := by
  refine List.ext_getElem? fun v => ?_
  by_cases hv : v < vs.length
  · unfold volsTo
    rw [List.getElem?_map, List.getElem?_range hv, Option.map_some, List.getElem?_eq_getElem hv]
    congr 1
    have hm : vs[v] ∈ vs := List.getElem_mem hv
    have hs := h
    unfold shapedB at hs
    have h1 := List.all_eq_true.1 hs _ hm
    rw [Bool.and_eq_true] at h1
    have hD : vs[v].length = D := by have := of_decide_eq_true h1.1; omega
    refine List.ext_getElem? fun i => ?_
    by_cases hi : i < D
    · unfold volTo
      rw [List.getElem?_map, List.getElem?_range hi, Option.map_some, List.getElem?_eq_getElem (by omega)]
      congr 1
      have h2 := bytes_rows h v i hv hi
      have e1 : vs.getD v [] = vs[v] := by rw [List.getD_eq_getElem?_getD, List.getElem?_eq_getElem hv, Option.getD_some]
      have hi' : i < vs[v].length := by omega
      have e2 : vs[v].getD i ⟨#[]⟩ = vs[v][i] := by rw [List.getD_eq_getElem?_getD, List.getElem?_eq_getElem hi', Option.getD_some]
      rw [e1, e2] at h2
      exact ba_ext h2
    · rw [List.getElem?_eq_none (by rw [volTo_length]; omega), List.getElem?_eq_none (by omega)]
  · rw [List.getElem?_eq_none (by rw [volsTo_length]; omega), List.getElem?_eq_none (by omega)]

/-- Cut of Join is the volumes. -/
theorem cut_join {vs : List (List ByteArray)} {r m : Int} {D S : Nat} (hsh : shapeB D r S m = true) (hok : joinOk vs D r S m = true) : cutB ⟨(streamL vs).toArray⟩ D r S m = (vs, 0) := by
  unfold joinOk at hok
  rw [Bool.and_eq_true, Bool.and_eq_true, Bool.and_eq_true] at hok
  obtain ⟨⟨⟨h1, h2⟩, h3⟩, h4⟩ := hok
  obtain ⟨h5, h6⟩ := of_decide_eq_true h2
  have h3 := of_decide_eq_true h3
  have hlen := bytesL_length h1
  have hsl : (streamL vs).length = numTo (bytesL vs) 8 := by
    unfold streamL
    rw [List.length_take, List.length_drop]
    omega
  have hsz : (⟨(streamL vs).toArray⟩ : ByteArray).size = (streamL vs).length := by rw [Lib.size_eq]
  have hall : allL (streamL vs) (vs.length * D * S) = bytesL vs := by
    unfold allL
    have e8 : eightL (streamL vs).length = (bytesL vs).take 8 := by
      rw [hsl]
      have : numTo (bytesL vs) 8 = numTo ((bytesL vs).take 8) 8 := by
        conv => lhs; rw [← List.take_append_drop 8 (bytesL vs)]
        exact numTo_append _ _ 8 (by rw [List.length_take]; omega)
      rw [this]
      exact eight_numTo _ (by rw [List.length_take]; omega)
    have er : List.replicate (vs.length * D * S - (8 + (streamL vs).length)) 0 = restL vs := by
      have hrl : (restL vs).length = vs.length * D * S - (8 + (streamL vs).length) := by
        unfold restL
        rw [List.length_drop, hlen, hsl, Nat.mul_assoc]
      rw [← hrl]
      refine (List.eq_replicate_iff.2 ⟨rfl, fun x hx => ?_⟩).symm
      have := List.all_eq_true.1 h4 x hx
      simpa using this
    rw [e8, er]
    unfold streamL restL
    rw [← List.drop_drop, List.append_assoc, List.take_append_drop, List.take_append_drop]
  unfold cutB
  rw [hsz, h3, if_pos rfl]
  simp only [Int.toNat_natCast]
  rw [hall, rows_again h1]

theorem long_loop (l : List (List ByteArray)) (hl : l.length ≤ 8796093022208) : ∀ (n i : Nat) (x : Int), i + n = l.length → 20 * (i : Int) ≤ x → x ≤ 20 * (i : Int) + 20000 →
    ∃ b : Bool, Ev (fun k => hamperlaw26_long.l0 k l x (i : Int)) b ∧ (b = false → l.length ≤ 1000) := by
  intro n
  induction n with
  | zero =>
    intro i x hi h1 h2
    refine ⟨decide (x > 20000), Ev.step (f := fun _ => some (decide (x > 20000))) (fun k => ?_) (Ev.now _), fun h => ?_⟩
    · show hamperlaw26_long.l0 (k + 1) l x (i : Int) = _
      unfold hamperlaw26_long.l0
      rw [if_neg (by omega)]
    · have := of_decide_eq_false h
      omega
  | succ n ih =>
    intro i x hi h1 h2
    have inner : ∀ (p j : Nat) (x : Int), j + p = (rd_L2 l (i : Int)).length → 20 * ((i + 1 : Nat) : Int) + 20 * (j : Int) ≤ x → x ≤ 20 * ((i + 1 : Nat) : Int) + 20000 →
        ∃ b : Bool, Ev (fun k => hamperlaw26_long.l1 k l x (i : Int) (j : Int)) b ∧ (b = false → l.length ≤ 1000) := by
      intro p
      induction p with
      | zero =>
        intro j x hj h1 h2
        obtain ⟨b, hb, hf⟩ := ih (i + 1) x (by omega) (by omega) h2
        refine ⟨b, Ev.step (fun k => ?_) hb, hf⟩
        show hamperlaw26_long.l1 (k + 1) l x (i : Int) (j : Int) = _
        conv => lhs; unfold hamperlaw26_long.l1
        rw [if_pos (by omega), if_pos (by omega), if_neg (by omega), w64 (by omega) (by omega)]
        rfl
      | succ p ihp =>
        intro j x hj h1 h2
        obtain ⟨z, hz⟩ : ∃ z : Nat, (rdOf ByteArray.empty (rd_L2 l (i : Int)) (j : Int)).size = z := ⟨_, rfl⟩
        by_cases c1 : (z : Int) > 1000
        · refine ⟨true, Ev.step (f := fun _ => some true) (fun k => ?_) (Ev.now _), fun h => by cases h⟩
          show hamperlaw26_long.l1 (k + 1) l x (i : Int) (j : Int) = _
          conv => lhs; unfold hamperlaw26_long.l1
          rw [if_pos (by omega), if_pos (by omega), if_pos (by omega), if_pos (by omega), hz, if_pos c1]
        · have e1 : wrap64 (x + 20) = x + 20 := w64 (by omega) (by omega)
          have e2 : wrap64 (x + 20 + (z : Int)) = x + 20 + (z : Int) := w64 (by omega) (by omega)
          by_cases c2 : x + 20 + (z : Int) > 20000
          · refine ⟨true, Ev.step (f := fun _ => some true) (fun k => ?_) (Ev.now _), fun h => by cases h⟩
            show hamperlaw26_long.l1 (k + 1) l x (i : Int) (j : Int) = _
            conv => lhs; unfold hamperlaw26_long.l1
            rw [if_pos (by omega), if_pos (by omega), if_pos (by omega), if_pos (by omega), hz, if_neg c1, e1, e2, if_pos c2]
          · obtain ⟨b, hb, hf⟩ := ihp (j + 1) (x + 20 + (z : Int)) (by omega) (by omega) (by omega)
            refine ⟨b, Ev.step (fun k => ?_) hb, hf⟩
            show hamperlaw26_long.l1 (k + 1) l x (i : Int) (j : Int) = _
            conv => lhs; unfold hamperlaw26_long.l1
            rw [if_pos (by omega), if_pos (by omega), if_pos (by omega), if_pos (by omega), hz, if_neg c1, e1, e2, if_neg c2, w64 (x := (j : Int) + 1) (by omega) (by omega)]
            rfl
    obtain ⟨b, hb, hf⟩ := inner (rd_L2 l (i : Int)).length 0 (x + 20) (by omega) (by omega) (by omega)
    refine ⟨b, Ev.step (fun k => ?_) hb, hf⟩
    show hamperlaw26_long.l0 (k + 1) l x (i : Int) = _
    conv => lhs; unfold hamperlaw26_long.l0
    rw [if_pos (by omega), w64 (by omega) (by omega)]
    rfl
theorem long_f (l : List (List ByteArray)) (hl : l.length ≤ 8796093022208) : ∃ b : Bool, Ev (fun k => hamperlaw26_long.f k l) b ∧ (b = false → l.length ≤ 1000) := by
  obtain ⟨b, hb, hf⟩ := long_loop l hl l.length 0 0 (by omega) (by omega) (by omega)
  exact ⟨b, Ev.congr (fun k => rfl) hb, hf⟩

theorem same_loop (l : List (List ByteArray)) (hl : l.length ≤ 8796093022208) (hr : ∀ rows ∈ l, rows.length ≤ 8796093022208) : ∀ (n i : Nat), i + n = l.length → Ev (fun k => hamperref26_Same.l0 k l l (i : Int)) true := by
  intro n
  induction n with
  | zero =>
    intro i hi
    refine Ev.step (f := fun _ => some true) (fun k => ?_) (Ev.now _)
    show hamperref26_Same.l0 (k + 1) l l (i : Int) = _
    unfold hamperref26_Same.l0
    rw [if_neg (by omega)]
  | succ n ih =>
    intro i hi
    have hrl : (rd_L2 l (i : Int)).length ≤ 8796093022208 := by
      unfold rd_L2
      rw [Int.toNat_natCast, List.getD_eq_getElem?_getD, List.getElem?_eq_getElem (by omega)]
      exact hr _ (List.getElem_mem _)
    have inner : ∀ (p j : Nat), j + p = (rd_L2 l (i : Int)).length → Ev (fun k => hamperref26_Same.l1 k l l (i : Int) (j : Int)) true := by
      intro p
      induction p with
      | zero =>
        intro j hj
        refine Ev.step (fun k => ?_) (ih (i + 1) (by omega))
        show hamperref26_Same.l1 (k + 1) l l (i : Int) (j : Int) = _
        conv => lhs; unfold hamperref26_Same.l1
        rw [if_pos (by omega), if_pos (by omega), if_neg (by omega), w64 (by omega) (by omega)]
        rfl
      | succ p ihp =>
        intro j hj
        refine Ev.step (fun k => ?_) (ihp (j + 1) (by omega))
        show hamperref26_Same.l1 (k + 1) l l (i : Int) (j : Int) = _
        conv => lhs; unfold hamperref26_Same.l1
        rw [if_pos (by omega), if_pos (by omega), if_pos (by omega), if_pos (by omega), if_pos (by omega), if_pos (by omega), if_pos rfl, w64 (by omega) (by omega)]
        rfl
    refine Ev.step (fun k => ?_) (inner (rd_L2 l (i : Int)).length 0 (by omega))
    show hamperref26_Same.l0 (k + 1) l l (i : Int) = _
    conv => lhs; unfold hamperref26_Same.l0
    rw [if_pos (by omega), if_pos (by omega), if_pos (by omega), if_pos rfl]
    rfl
theorem same_f (l : List (List ByteArray)) (hl : l.length ≤ 8796093022208) (hr : ∀ rows ∈ l, rows.length ≤ 8796093022208) : Ev (fun k => hamperref26_Same.f k l l) true := by
  refine Ev.congr (fun k => ?_) (same_loop l hl hr l.length 0 (by omega))
  show hamperref26_Same.f k l l = _
  unfold hamperref26_Same.f
  rw [if_pos rfl]
  rfl
end Go.Proofs.YtnnkenbcdepafaaDoor.H
