/- The walk of slice.Place: it answers whether the place may be (placeB), for every place; nothing that lay there is changed. -/
import Derived.Test.YtnnkenbcdepafaaGreatDoorH1
import Derived.Test.YtnnkenbcdepafaaGreatDoorHS
namespace Go.Proofs.YtnnkenbcdepafaaGreatDoor.H
open Go.RowKit Go.Proofs.YtnnkenbcdepafaaGreatDoorW.PrintWords Go.Proofs.YtnnkenbcdepafaaGreatDoorW.PrintLast Go.Proofs.YtnnkenbcdepafaaGreatDoorW.PrintMore Go.Proofs.YtnnkenbcdepafaaGreatDoor.B
set_option linter.unusedVariables false
set_option linter.unusedSimpArgs false

theorem shape_f (d r s m : Int) : slice_Shape.f d r s m = some (shapeB d r s m) := by
  unfold slice_Shape.f sector_Shape.f shapeB
  repeat' split
  all_goals try simp only [Option.bind_some]
  all_goals first
    | exact congrArg some (decide_eq_decide.2 (by omega))
    | exact congrArg some (decide_eq_false (by omega)).symm
theorem ref_shape_f (d r s m : Int) : hamperref26_Shape.f d r s m = some (shapeB d r s m) := by
  unfold hamperref26_Shape.f shapeB
  repeat' split
  all_goals try simp only [Option.bind_some]
  all_goals first
    | exact congrArg some (decide_eq_decide.2 (by omega))
    | exact congrArg some (decide_eq_false (by omega)).symm

/-- The closure's answer: the byte may not stand in a base. -/
theorem place_pred (w : World) : PredAt Tryz.prog 26 #[] (fun c : UInt8 => .int .u8 (c.toNat : Int)) (fun c => !okByte c) w := fun W c _ => by
  have hc := c.toNat_lt
  unfold FnGives
  by_cases h1 : 97 ≤ c.toNat <;> by_cases h2 : c.toNat ≤ 122 <;> by_cases h3 : 48 ≤ c.toNat <;> by_cases h4 : c.toNat ≤ 57 <;> by_cases h5 : c.toNat = 95
  all_goals first
    | (exfalso; omega)
    | (have z1 : (97 : Int) ≤ (c.toNat : Int) ↔ 97 ≤ c.toNat := by omega
       have z2 : (c.toNat : Int) ≤ 122 ↔ c.toNat ≤ 122 := by omega
       have z3 : (48 : Int) ≤ (c.toNat : Int) ↔ 48 ≤ c.toNat := by omega
       have z4 : (c.toNat : Int) ≤ 57 ↔ c.toNat ≤ 57 := by omega
       have z5 : (c.toNat : Int) = 95 ↔ c.toNat = 95 := by omega
       go_enter Tryz.func26, Tryz.ntmps26
       go_wp2
       all_goals first | (exfalso; omega) | (go_ret; exact ⟨by first | (simp [okByte, h1, h2, h3, h4, h5]; done) | (simp [okByte, h1, h2, h3, h4, h5]; omega), 0, rfl⟩))

/-- Place's answer, where its numbers are Go's. -/
def slice_Place.f (b : ByteArray) (i k d r s m : Int) : Option Bool := if (-9223372036854775808 ≤ i ∧ i ≤ 9223372036854775807) ∧ (-9223372036854775808 ≤ k ∧ k ≤ 9223372036854775807) ∧ b.size ≤ 9223372036854775807 then some (placeB b i k d r s m) else none

set_option maxHeartbeats 4000000 in
set_option maxRecDepth 100000 in
theorem place_no (b : ByteArray) (i k d r s m : Int) (w : World) (hwi : -9223372036854775808 ≤ i ∧ i ≤ 9223372036854775807) (hwk : -9223372036854775808 ≤ k ∧ k ≤ 9223372036854775807) (hbs : b.size ≤ 9223372036854775807)
    (h : shapeB d r s m = false ∨ (shapeB d r s m = true ∧ b.size = 0) ∨ (shapeB d r s m = true ∧ 0 < b.size ∧ (60 < b.size ∨ (b.size ≤ 60 ∧ (k < 1 ∨ (1 ≤ k ∧ (96 - m < k ∨ (k ≤ 96 - m ∧ (i < 0 ∨ (0 ≤ i ∧ k + m ≤ i)))))))))) :
    Calls Tryz.prog 12 #[.agg #[.string b, .int .i64 i, .int .i64 k, .int .i64 d, .int .i64 r, .int .i64 s, .int .i64 m]] w fun e w' => e = .returned (.bool false) ∧ Below w.heap.size w w' := by
  obtain ⟨hwi0, hwi1⟩ := hwi
  obtain ⟨hwk0, hwk1⟩ := hwk
  have HB := Aside0.mk (Below.refl w.heap.size w)
  have HS := Aside0.mk (shape_f d r s m)
  rcases h with h | ⟨h, h1⟩ | ⟨h, h1, h2 | ⟨h2, h3 | ⟨h3, h4 | ⟨h4, h5 | ⟨h5, h6⟩⟩⟩⟩⟩
  all_goals rw [h] at HS
  all_goals try (have hm := shapeB_iff.1 h; have hm0 : 0 ≤ m := hm.2.2.2.2.2.2.2.1; have hm1 : m ≤ 32 := hm.2.2.2.2.2.2.2.2; clear hm)
  · clear h
    go_enter Tryz.func12, Tryz.ntmps12
    go_wp2_with (first | ((with_reducible refine gate_dst (N := 1) rfl ?_); refine box_event ?hg (N := 1) ?hd (cs := #[.string b, .int .i64 i, .int .i64 k, .int .i64 d, .int .i64 r, .int .i64 s, .int .i64 m]) (t := 25) ?hr ?_; (case hd => rfl); (case hg => rfl); (case hr => first | (go_simp; done) | (go_simp; rfl)); intro gb hg w1 hbox hb; have HB1 := Aside0.mk (below_step HB.out hb); clear HB; have HB := HB1; clear HB1; have BK := Aside0.mk hbox; clear hb hbox hg; have hcw1_0 : w1.cell? ⟨gb, 0, none⟩ = some (.string b) := (blk_cell BK.out 0).trans rfl; have hcw1_1 : w1.cell? ⟨gb, 1, none⟩ = some (.int .i64 i) := (blk_cell BK.out 1).trans rfl; have hcw1_2 : w1.cell? ⟨gb, 2, none⟩ = some (.int .i64 k) := (blk_cell BK.out 2).trans rfl; have hcw1_3 : w1.cell? ⟨gb, 3, none⟩ = some (.int .i64 d) := (blk_cell BK.out 3).trans rfl; have hcw1_4 : w1.cell? ⟨gb, 4, none⟩ = some (.int .i64 r) := (blk_cell BK.out 4).trans rfl; have hcw1_5 : w1.cell? ⟨gb, 5, none⟩ = some (.int .i64 s) := (blk_cell BK.out 5).trans rfl; have hcw1_6 : w1.cell? ⟨gb, 6, none⟩ = some (.int .i64 m) := (blk_cell BK.out 6).trans rfl) | ((with_reducible refine gate_callee (f := 24) rfl ?_); refine goesL_ (some 5) rfl rfl Tryz.func24 (by kernel_rfl) rfl #[.agg #[.int .i64 d, .int .i64 r, .int .i64 s, .int .i64 m]] rfl (by (try simp only [List.map_toArray, List.map_cons, List.map_nil]); first | done | rfl) ?_; (with_reducible refine (slice_Shape.calls d r s m _ _ HS.out).mono ?_); rintro e w2 ⟨rfl, hb⟩; refine ⟨_, rfl, ?_⟩; have HB1 := Aside0.mk (below_step (by repeat (first | (with_reducible first | exact HB.out | apply below_alloc | apply pw_below_drewN | apply below_drew1) | exact HB.out)) hb); clear HB; have HB := HB1; clear HB1; have BK1 := Aside0.mk (blk_below (by exact BK.out) hb); clear BK; have BK := BK1; clear BK1; clear hb; have hcw2_0 : w2.cell? ⟨gb, 0, none⟩ = some (.string b) := (blk_cell BK.out 0).trans rfl; have hcw2_1 : w2.cell? ⟨gb, 1, none⟩ = some (.int .i64 i) := (blk_cell BK.out 1).trans rfl; have hcw2_2 : w2.cell? ⟨gb, 2, none⟩ = some (.int .i64 k) := (blk_cell BK.out 2).trans rfl; have hcw2_3 : w2.cell? ⟨gb, 3, none⟩ = some (.int .i64 d) := (blk_cell BK.out 3).trans rfl; have hcw2_4 : w2.cell? ⟨gb, 4, none⟩ = some (.int .i64 r) := (blk_cell BK.out 4).trans rfl; have hcw2_5 : w2.cell? ⟨gb, 5, none⟩ = some (.int .i64 s) := (blk_cell BK.out 5).trans rfl; have hcw2_6 : w2.cell? ⟨gb, 6, none⟩ = some (.int .i64 m) := (blk_cell BK.out 6).trans rfl))
    go_ret
    exact ⟨rfl, HB.out⟩
  · clear h
    have hl0 : b.toList = [] := by rw [Lib.toList_data]; exact List.eq_nil_of_length_eq_zero (by rw [data_length]; exact h1)
    have hl1 : b.toList.isEmpty = true := by rw [hl0]; rfl
    go_enter Tryz.func12, Tryz.ntmps12
    go_wp2_with (first | ((with_reducible refine gate_dst (N := 1) rfl ?_); refine box_event ?hg (N := 1) ?hd (cs := #[.string b, .int .i64 i, .int .i64 k, .int .i64 d, .int .i64 r, .int .i64 s, .int .i64 m]) (t := 25) ?hr ?_; (case hd => rfl); (case hg => rfl); (case hr => first | (go_simp; done) | (go_simp; rfl)); intro gb hg w1 hbox hb; have HB1 := Aside0.mk (below_step HB.out hb); clear HB; have HB := HB1; clear HB1; have BK := Aside0.mk hbox; clear hb hbox hg; have hcw1_0 : w1.cell? ⟨gb, 0, none⟩ = some (.string b) := (blk_cell BK.out 0).trans rfl; have hcw1_1 : w1.cell? ⟨gb, 1, none⟩ = some (.int .i64 i) := (blk_cell BK.out 1).trans rfl; have hcw1_2 : w1.cell? ⟨gb, 2, none⟩ = some (.int .i64 k) := (blk_cell BK.out 2).trans rfl; have hcw1_3 : w1.cell? ⟨gb, 3, none⟩ = some (.int .i64 d) := (blk_cell BK.out 3).trans rfl; have hcw1_4 : w1.cell? ⟨gb, 4, none⟩ = some (.int .i64 r) := (blk_cell BK.out 4).trans rfl; have hcw1_5 : w1.cell? ⟨gb, 5, none⟩ = some (.int .i64 s) := (blk_cell BK.out 5).trans rfl; have hcw1_6 : w1.cell? ⟨gb, 6, none⟩ = some (.int .i64 m) := (blk_cell BK.out 6).trans rfl) | ((with_reducible refine gate_callee (f := 24) rfl ?_); refine goesL_ (some 5) rfl rfl Tryz.func24 (by kernel_rfl) rfl #[.agg #[.int .i64 d, .int .i64 r, .int .i64 s, .int .i64 m]] rfl (by (try simp only [List.map_toArray, List.map_cons, List.map_nil]); first | done | rfl) ?_; (with_reducible refine (slice_Shape.calls d r s m _ _ HS.out).mono ?_); rintro e w2 ⟨rfl, hb⟩; refine ⟨_, rfl, ?_⟩; have HB1 := Aside0.mk (below_step (by repeat (first | (with_reducible first | exact HB.out | apply below_alloc | apply pw_below_drewN | apply below_drew1) | exact HB.out)) hb); clear HB; have HB := HB1; clear HB1; have BK1 := Aside0.mk (blk_below (by exact BK.out) hb); clear BK; have BK := BK1; clear BK1; clear hb; have hcw2_0 : w2.cell? ⟨gb, 0, none⟩ = some (.string b) := (blk_cell BK.out 0).trans rfl; have hcw2_1 : w2.cell? ⟨gb, 1, none⟩ = some (.int .i64 i) := (blk_cell BK.out 1).trans rfl; have hcw2_2 : w2.cell? ⟨gb, 2, none⟩ = some (.int .i64 k) := (blk_cell BK.out 2).trans rfl; have hcw2_3 : w2.cell? ⟨gb, 3, none⟩ = some (.int .i64 d) := (blk_cell BK.out 3).trans rfl; have hcw2_4 : w2.cell? ⟨gb, 4, none⟩ = some (.int .i64 r) := (blk_cell BK.out 4).trans rfl; have hcw2_5 : w2.cell? ⟨gb, 5, none⟩ = some (.int .i64 s) := (blk_cell BK.out 5).trans rfl; have hcw2_6 : w2.cell? ⟨gb, 6, none⟩ = some (.int .i64 m) := (blk_cell BK.out 6).trans rfl))
    go_ret
    exact ⟨rfl, HB.out⟩
  all_goals
    clear h
    have hl : b.toList.isEmpty = false := by
      have : b.toList.length ≠ 0 := by rw [Lib.toList_data, data_length]; omega
      cases hq : b.toList with
      | nil => rw [hq] at this; exact absurd rfl this
      | cons _ _ => rfl
    go_enter Tryz.func12, Tryz.ntmps12
    go_wp2_with (first | ((with_reducible refine gate_dst (N := 1) rfl ?_); refine box_event ?hg (N := 1) ?hd (cs := #[.string b, .int .i64 i, .int .i64 k, .int .i64 d, .int .i64 r, .int .i64 s, .int .i64 m]) (t := 25) ?hr ?_; (case hd => rfl); (case hg => rfl); (case hr => first | (go_simp; done) | (go_simp; rfl)); intro gb hg w1 hbox hb; have HB1 := Aside0.mk (below_step HB.out hb); clear HB; have HB := HB1; clear HB1; have BK := Aside0.mk hbox; clear hb hbox hg; have hcw1_0 : w1.cell? ⟨gb, 0, none⟩ = some (.string b) := (blk_cell BK.out 0).trans rfl; have hcw1_1 : w1.cell? ⟨gb, 1, none⟩ = some (.int .i64 i) := (blk_cell BK.out 1).trans rfl; have hcw1_2 : w1.cell? ⟨gb, 2, none⟩ = some (.int .i64 k) := (blk_cell BK.out 2).trans rfl; have hcw1_3 : w1.cell? ⟨gb, 3, none⟩ = some (.int .i64 d) := (blk_cell BK.out 3).trans rfl; have hcw1_4 : w1.cell? ⟨gb, 4, none⟩ = some (.int .i64 r) := (blk_cell BK.out 4).trans rfl; have hcw1_5 : w1.cell? ⟨gb, 5, none⟩ = some (.int .i64 s) := (blk_cell BK.out 5).trans rfl; have hcw1_6 : w1.cell? ⟨gb, 6, none⟩ = some (.int .i64 m) := (blk_cell BK.out 6).trans rfl) | ((with_reducible refine gate_callee (f := 24) rfl ?_); refine goesL_ (some 5) rfl rfl Tryz.func24 (by kernel_rfl) rfl #[.agg #[.int .i64 d, .int .i64 r, .int .i64 s, .int .i64 m]] rfl (by (try simp only [List.map_toArray, List.map_cons, List.map_nil]); first | done | rfl) ?_; (with_reducible refine (slice_Shape.calls d r s m _ _ HS.out).mono ?_); rintro e w2 ⟨rfl, hb⟩; refine ⟨_, rfl, ?_⟩; have HB1 := Aside0.mk (below_step (by repeat (first | (with_reducible first | exact HB.out | apply below_alloc | apply pw_below_drewN | apply below_drew1) | exact HB.out)) hb); clear HB; have HB := HB1; clear HB1; have BK1 := Aside0.mk (blk_below (by exact BK.out) hb); clear BK; have BK := BK1; clear BK1; clear hb; have hcw2_0 : w2.cell? ⟨gb, 0, none⟩ = some (.string b) := (blk_cell BK.out 0).trans rfl; have hcw2_1 : w2.cell? ⟨gb, 1, none⟩ = some (.int .i64 i) := (blk_cell BK.out 1).trans rfl; have hcw2_2 : w2.cell? ⟨gb, 2, none⟩ = some (.int .i64 k) := (blk_cell BK.out 2).trans rfl; have hcw2_3 : w2.cell? ⟨gb, 3, none⟩ = some (.int .i64 d) := (blk_cell BK.out 3).trans rfl; have hcw2_4 : w2.cell? ⟨gb, 4, none⟩ = some (.int .i64 r) := (blk_cell BK.out 4).trans rfl; have hcw2_5 : w2.cell? ⟨gb, 5, none⟩ = some (.int .i64 s) := (blk_cell BK.out 5).trans rfl; have hcw2_6 : w2.cell? ⟨gb, 6, none⟩ = some (.int .i64 m) := (blk_cell BK.out 6).trans rfl))
    go_ret
    exact ⟨rfl, HB.out⟩

theorem containsByte_calls (s : ByteArray) (blk c : Nat) (w : World) (hs : s.size ≤ 9223372036854775807) (hc : ∀ j, j < s.size → w.cell? ⟨blk, j, none⟩ = some (.int .u8 (s.data.toList.getD j 0).toNat)) :
    Calls Tryz.prog 25 #[.slice (some ⟨blk, 0, none⟩) s.size c, .func (.func 26) #[] #[]] w fun e w' => e = .returned (.bool (s.data.toList.any fun c => !okByte c)) ∧ Below w.heap.size w w' := by
  have h := AnyE.slices_ContainsFunc Tryz.containsByte (fun c : UInt8 => .int .u8 (c.toNat : Int)) (fun c => !okByte c) 26 #[] (enters_of Tryz.func26 (by kernel_rfl) rfl) blk 0 s.size c s.data.toList w (place_pred w) (by rw [data_length]; exact Nat.le_refl _) hs (fun j hj => by
    rw [data_length] at hj
    rw [Nat.zero_add, hc j hj]
    simp [List.getD_eq_getElem?_getD, List.getElem!_eq_getElem?_getD]
    rfl)
  rw [List.take_of_length_le (by rw [data_length]; exact Nat.le_refl _)] at h
  refine Calls.mono h ?_
  rintro e w' ⟨rfl, q, rfl⟩
  exact ⟨rfl, pw_below_drewN (Below.refl _ _) q⟩

set_option maxHeartbeats 4000000 in
set_option maxRecDepth 100000 in
theorem place_yes (b : ByteArray) (i k d r s m : Int) (w : World) (h : shapeB d r s m = true) (h1 : 0 < b.size) (h2 : b.size ≤ 60) (h3 : 1 ≤ k) (h4 : k ≤ 96 - m) (h5 : 0 ≤ i) (h6 : i < k + m) :
    Calls Tryz.prog 12 #[.agg #[.string b, .int .i64 i, .int .i64 k, .int .i64 d, .int .i64 r, .int .i64 s, .int .i64 m]] w fun e w' => e = .returned (.bool (b.data.toList.all okByte)) ∧ Below w.heap.size w w' := by
  have HB := Aside0.mk (Below.refl w.heap.size w)
  have HS := Aside0.mk (shape_f d r s m)
  rw [h] at HS
  have hm := shapeB_iff.1 h
  have hm0 : 0 ≤ m := hm.2.2.2.2.2.2.2.1
  have hm1 : m ≤ 32 := hm.2.2.2.2.2.2.2.2
  clear hm h
  have hl : b.toList.isEmpty = false := by
    have : b.toList.length ≠ 0 := by rw [Lib.toList_data, data_length]; omega
    cases hq : b.toList with
    | nil => rw [hq] at this; exact absurd rfl this
    | cons _ _ => rfl
  obtain ⟨q, hq⟩ : ∃ q : Bool, (b.data.toList.all okByte) = q := ⟨_, rfl⟩
  have HQ := Aside0.mk (show (b.data.toList.any fun c => !okByte c) = !q by
    rw [← hq]
    clear hq
    induction b.data.toList with
    | nil => rfl
    | cons x l ih => simp [List.any_cons, List.all_cons, ih])
  rw [hq]
  clear hq
  have kb := fun W => print_bytes (P := Tryz.prog) 9 54 5 Tryz.underlying9 Tryz.underlying54 Tryz.underlying5 b W
  go_enter Tryz.func12, Tryz.ntmps12
  go_wp2_with (first | ((with_reducible refine gate_dst (N := 1) rfl ?_); refine box_event ?hg (N := 1) ?hd (cs := #[.string b, .int .i64 i, .int .i64 k, .int .i64 d, .int .i64 r, .int .i64 s, .int .i64 m]) (t := 25) ?hr ?_; (case hd => rfl); (case hg => rfl); (case hr => first | (go_simp; done) | (go_simp; rfl)); intro gb hg w1 hbox hb; have HB1 := Aside0.mk (below_step HB.out hb); clear HB; have HB := HB1; clear HB1; have BK := Aside0.mk hbox; clear hb hbox hg; have hcw1_0 : w1.cell? ⟨gb, 0, none⟩ = some (.string b) := (blk_cell BK.out 0).trans rfl; have hcw1_1 : w1.cell? ⟨gb, 1, none⟩ = some (.int .i64 i) := (blk_cell BK.out 1).trans rfl; have hcw1_2 : w1.cell? ⟨gb, 2, none⟩ = some (.int .i64 k) := (blk_cell BK.out 2).trans rfl; have hcw1_3 : w1.cell? ⟨gb, 3, none⟩ = some (.int .i64 d) := (blk_cell BK.out 3).trans rfl; have hcw1_4 : w1.cell? ⟨gb, 4, none⟩ = some (.int .i64 r) := (blk_cell BK.out 4).trans rfl; have hcw1_5 : w1.cell? ⟨gb, 5, none⟩ = some (.int .i64 s) := (blk_cell BK.out 5).trans rfl; have hcw1_6 : w1.cell? ⟨gb, 6, none⟩ = some (.int .i64 m) := (blk_cell BK.out 6).trans rfl) | ((with_reducible refine gate_callee (f := 24) rfl ?_); refine goesL_ (some 5) rfl rfl Tryz.func24 (by kernel_rfl) rfl #[.agg #[.int .i64 d, .int .i64 r, .int .i64 s, .int .i64 m]] rfl (by (try simp only [List.map_toArray, List.map_cons, List.map_nil]); first | done | rfl) ?_; (with_reducible refine (slice_Shape.calls d r s m _ _ HS.out).mono ?_); rintro e w2 ⟨rfl, hb⟩; refine ⟨_, rfl, ?_⟩; have HB1 := Aside0.mk (below_step (by repeat (first | (with_reducible first | exact HB.out | apply below_alloc | apply pw_below_drewN | apply below_drew1) | exact HB.out)) hb); clear HB; have HB := HB1; clear HB1; have BK1 := Aside0.mk (blk_below (by exact BK.out) hb); clear BK; have BK := BK1; clear BK1; clear hb; have hcw2_0 : w2.cell? ⟨gb, 0, none⟩ = some (.string b) := (blk_cell BK.out 0).trans rfl; have hcw2_1 : w2.cell? ⟨gb, 1, none⟩ = some (.int .i64 i) := (blk_cell BK.out 1).trans rfl; have hcw2_2 : w2.cell? ⟨gb, 2, none⟩ = some (.int .i64 k) := (blk_cell BK.out 2).trans rfl; have hcw2_3 : w2.cell? ⟨gb, 3, none⟩ = some (.int .i64 d) := (blk_cell BK.out 3).trans rfl; have hcw2_4 : w2.cell? ⟨gb, 4, none⟩ = some (.int .i64 r) := (blk_cell BK.out 4).trans rfl; have hcw2_5 : w2.cell? ⟨gb, 5, none⟩ = some (.int .i64 s) := (blk_cell BK.out 5).trans rfl; have hcw2_6 : w2.cell? ⟨gb, 6, none⟩ = some (.int .i64 m) := (blk_cell BK.out 6).trans rfl))
  refine (containsByte_calls b _ _ _ (by omega) (fun j hj => Lib.bytesWorld_cell w2 5 b j hj)).mono ?_
  rintro e w3 ⟨rfl, hb⟩
  rw [HQ.out]
  have HB3 := Aside0.mk (below_step (bytes_below HB.out (below_size HB.out) 5 b) hb)
  go_wp2
  go_ret
  exact ⟨by simp, HB3.out⟩

theorem slice_Place.calls (b : ByteArray) (i k d r s m : Int) (res : Bool) (w : World) (h : slice_Place.f b i k d r s m = some res) :
    Calls Tryz.prog 12 #[.agg #[.string b, .int .i64 i, .int .i64 k, .int .i64 d, .int .i64 r, .int .i64 s, .int .i64 m]] w fun e w' => e = .returned (.bool res) ∧ Below w.heap.size w w' := by
  unfold slice_Place.f at h
  split at h
  · rename_i hw
    obtain ⟨hwi, hwk, hbs⟩ := hw
    obtain rfl := Option.some.inj h
    by_cases hs : shapeB d r s m = true
    · have hm := shapeB_iff.1 hs
      have hm0 : 0 ≤ m := hm.2.2.2.2.2.2.2.1
      have hm1 : m ≤ 32 := hm.2.2.2.2.2.2.2.2
      by_cases hall : 1 ≤ b.size ∧ b.size ≤ 60 ∧ 1 ≤ k ∧ k + m ≤ 96 ∧ 0 ≤ i ∧ i < k + m
      · have e : placeB b i k d r s m = b.data.toList.all okByte := by
          unfold placeB
          rw [hs, decide_eq_true hall]
          simp
        rw [e]
        exact place_yes b i k d r s m w hs (by omega) (by omega) (by omega) (by omega) (by omega) (by omega)
      · have e : placeB b i k d r s m = false := by
          unfold placeB
          rw [decide_eq_false hall]
          simp
        rw [e]
        exact place_no b i k d r s m w hwi hwk hbs (.inr (by
          by_cases h0 : b.size = 0
          · exact .inl ⟨hs, h0⟩
          · exact .inr ⟨hs, by omega, by omega⟩))
    · have hs' : shapeB d r s m = false := by simpa using hs
      have e : placeB b i k d r s m = false := by
        unfold placeB
        rw [hs']
        rfl
      rw [e]
      exact place_no b i k d r s m w hwi hwk hbs (.inl hs')
  · cases h
end Go.Proofs.YtnnkenbcdepafaaGreatDoor.H
