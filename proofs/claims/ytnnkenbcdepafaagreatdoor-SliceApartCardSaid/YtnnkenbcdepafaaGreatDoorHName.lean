/- The walks of slice.numbers and slice.Name: a place's name (nameB), or that it may not be; nothing that lay there is changed. Conditions: LaidW, where the place may be. -/
import Derived.Test.YtnnkenbcdepafaaGreatDoorHPlace
import Derived.Deep.RegionWith
import Derived.ChangeAlike
namespace Go.Proofs.YtnnkenbcdepafaaGreatDoor.H
open Go.RowKit Go.Proofs.YtnnkenbcdepafaaGreatDoorW.PrintWords Go.Proofs.YtnnkenbcdepafaaGreatDoorW.PrintLast Go.Proofs.YtnnkenbcdepafaaGreatDoorW.PrintMore Go.Proofs.YtnnkenbcdepafaaGreatDoor.B
set_option linter.unusedVariables false
set_option linter.unusedSimpArgs false

set_option maxHeartbeats 4000000 in
set_option maxRecDepth 100000 in
theorem numbers_calls (b : ByteArray) (i k d r s m : Int) (w : World) :
    Calls Tryz.prog 16 #[.agg #[.string b, .int .i64 i, .int .i64 k, .int .i64 d, .int .i64 r, .int .i64 s, .int .i64 m]] w fun e w' => e = .returned (.agg #[.int .i64 d, .int .i64 r, .int .i64 s, .int .i64 m, .int .i64 k, .int .i64 i]) ∧ Below w.heap.size w w' := by
  have HB := Aside0.mk (Below.refl w.heap.size w)
  go_enter Tryz.func16, Tryz.ntmps16
  go_wp2_with (first | ((with_reducible refine gate_dst (N := 1) rfl ?_); refine box_event ?hg (N := 1) ?hd (cs := #[.string b, .int .i64 i, .int .i64 k, .int .i64 d, .int .i64 r, .int .i64 s, .int .i64 m]) (t := 25) ?hr ?_; (case hd => rfl); (case hg => rfl); (case hr => first | (go_simp; done) | (go_simp; rfl)); intro gb hg w1 hbox hb; have HB1 := Aside0.mk (below_step HB.out hb); clear HB; have HB := HB1; clear HB1; have BK := Aside0.mk hbox; clear hb hbox hg; have hcw1_0 : w1.cell? ⟨gb, 0, none⟩ = some (.string b) := (blk_cell BK.out 0).trans rfl; have hcw1_1 : w1.cell? ⟨gb, 1, none⟩ = some (.int .i64 i) := (blk_cell BK.out 1).trans rfl; have hcw1_2 : w1.cell? ⟨gb, 2, none⟩ = some (.int .i64 k) := (blk_cell BK.out 2).trans rfl; have hcw1_3 : w1.cell? ⟨gb, 3, none⟩ = some (.int .i64 d) := (blk_cell BK.out 3).trans rfl; have hcw1_4 : w1.cell? ⟨gb, 4, none⟩ = some (.int .i64 r) := (blk_cell BK.out 4).trans rfl; have hcw1_5 : w1.cell? ⟨gb, 5, none⟩ = some (.int .i64 s) := (blk_cell BK.out 5).trans rfl; have hcw1_6 : w1.cell? ⟨gb, 6, none⟩ = some (.int .i64 m) := (blk_cell BK.out 6).trans rfl; have hgb := blk_lt BK.out))
  exact bodyPost_ret (v := .agg #[.int .i64 d, .int .i64 r, .int .i64 s, .int .i64 m, .int .i64 k, .int .i64 i]) (by simp [results, Tryz.results16, go_sem]) rfl ⟨rfl, below_alloc HB.out _⟩

/-- Name's two answers, where its numbers are Go's. -/
def slice_Name.f (b : ByteArray) (i k d r s m : Int) : Option (ByteArray × Int) :=
  if (-9223372036854775808 ≤ i ∧ i ≤ 9223372036854775807) ∧ (-9223372036854775808 ≤ k ∧ k ≤ 9223372036854775807) ∧ b.size ≤ 9223372036854775807 then some (if placeB b i k d r s m = true then (nameB b i k d r s m, 0) else (⟨#[]⟩, 1)) else none

set_option maxHeartbeats 4000000 in
set_option maxRecDepth 100000 in
theorem name_no (b : ByteArray) (i k d r s m : Int) (w : World) (h : slice_Place.f b i k d r s m = some false) :
    Calls Tryz.prog 6 #[.agg #[.string b, .int .i64 i, .int .i64 k, .int .i64 d, .int .i64 r, .int .i64 s, .int .i64 m]] w fun e w' => e = .returned (.tuple #[.string ⟨#[]⟩, .int .i64 1]) ∧ Below w.heap.size w w' := by
  have HB := Aside0.mk (Below.refl w.heap.size w)
  have HPl := Aside0.mk h
  clear h
  go_enter Tryz.func6, Tryz.ntmps6
  go_wp2_with (first | ((with_reducible refine gate_dst (N := 1) rfl ?_); refine box_event ?hg (N := 1) ?hd (cs := #[.string b, .int .i64 i, .int .i64 k, .int .i64 d, .int .i64 r, .int .i64 s, .int .i64 m]) (t := 25) ?hr ?_; (case hd => rfl); (case hg => rfl); (case hr => first | (go_simp; done) | (go_simp; rfl)); intro gb hg w1 hbox hb; have HB1 := Aside0.mk (below_step HB.out hb); clear HB; have HB := HB1; clear HB1; have BK := Aside0.mk hbox; clear hb hbox hg; have hcw1_0 : w1.cell? ⟨gb, 0, none⟩ = some (.string b) := (blk_cell BK.out 0).trans rfl; have hcw1_1 : w1.cell? ⟨gb, 1, none⟩ = some (.int .i64 i) := (blk_cell BK.out 1).trans rfl; have hcw1_2 : w1.cell? ⟨gb, 2, none⟩ = some (.int .i64 k) := (blk_cell BK.out 2).trans rfl; have hcw1_3 : w1.cell? ⟨gb, 3, none⟩ = some (.int .i64 d) := (blk_cell BK.out 3).trans rfl; have hcw1_4 : w1.cell? ⟨gb, 4, none⟩ = some (.int .i64 r) := (blk_cell BK.out 4).trans rfl; have hcw1_5 : w1.cell? ⟨gb, 5, none⟩ = some (.int .i64 s) := (blk_cell BK.out 5).trans rfl; have hcw1_6 : w1.cell? ⟨gb, 6, none⟩ = some (.int .i64 m) := (blk_cell BK.out 6).trans rfl; have hgb := blk_lt BK.out) | ((with_reducible refine gate_callee (f := 12) rfl ?_); refine goesL_ (some 8) rfl rfl Tryz.func12 (by kernel_rfl) rfl #[.agg #[.string b, .int .i64 i, .int .i64 k, .int .i64 d, .int .i64 r, .int .i64 s, .int .i64 m]] rfl (by (try simp only [List.map_toArray, List.map_cons, List.map_nil]); first | done | rfl) ?_; (with_reducible refine (slice_Place.calls b i k d r s m _ _ HPl.out).mono ?_); rintro e w2 ⟨rfl, hb⟩; refine ⟨_, rfl, ?_⟩; have HB1 := Aside0.mk (below_step (by repeat (first | (with_reducible first | exact HB.out | apply below_alloc | apply pw_below_drewN | apply below_drew1) | exact HB.out)) hb); clear HB; have HB := HB1; clear HB1; have BK1 := Aside0.mk (blk_below (by exact BK.out) hb); clear BK; have BK := BK1; clear BK1; clear hb; have hcw2_0 : w2.cell? ⟨gb, 0, none⟩ = some (.string b) := (blk_cell BK.out 0).trans rfl; have hcw2_1 : w2.cell? ⟨gb, 1, none⟩ = some (.int .i64 i) := (blk_cell BK.out 1).trans rfl; have hcw2_2 : w2.cell? ⟨gb, 2, none⟩ = some (.int .i64 k) := (blk_cell BK.out 2).trans rfl; have hcw2_3 : w2.cell? ⟨gb, 3, none⟩ = some (.int .i64 d) := (blk_cell BK.out 3).trans rfl; have hcw2_4 : w2.cell? ⟨gb, 4, none⟩ = some (.int .i64 r) := (blk_cell BK.out 4).trans rfl; have hcw2_5 : w2.cell? ⟨gb, 5, none⟩ = some (.int .i64 s) := (blk_cell BK.out 5).trans rfl; have hcw2_6 : w2.cell? ⟨gb, 6, none⟩ = some (.int .i64 m) := (blk_cell BK.out 6).trans rfl))
  go_ret2
  exact ⟨rfl, HB.out⟩

theorem index_nums (i k d r s m : Int) (j : Nat) (hj : j < 6) (W : World) : (Instr.index 40 (.agg #[.int .i64 d, .int .i64 r, .int .i64 s, .int .i64 m, .int .i64 k, .int .i64 i]) (.int .i64 (j : Int))).run Tryz.prog W = .ok (.int .i64 (nums i k d r s m j)) W := by
  have i0 : ∀ w, (Instr.index 40 (.agg #[.int .i64 d, .int .i64 r, .int .i64 s, .int .i64 m, .int .i64 k, .int .i64 i]) (.int .i64 0)).run Tryz.prog w = .ok (.int .i64 d) w := fun _ => by kernel_rfl
  have i1 : ∀ w, (Instr.index 40 (.agg #[.int .i64 d, .int .i64 r, .int .i64 s, .int .i64 m, .int .i64 k, .int .i64 i]) (.int .i64 1)).run Tryz.prog w = .ok (.int .i64 r) w := fun _ => by kernel_rfl
  have i2 : ∀ w, (Instr.index 40 (.agg #[.int .i64 d, .int .i64 r, .int .i64 s, .int .i64 m, .int .i64 k, .int .i64 i]) (.int .i64 2)).run Tryz.prog w = .ok (.int .i64 s) w := fun _ => by kernel_rfl
  have i3 : ∀ w, (Instr.index 40 (.agg #[.int .i64 d, .int .i64 r, .int .i64 s, .int .i64 m, .int .i64 k, .int .i64 i]) (.int .i64 3)).run Tryz.prog w = .ok (.int .i64 m) w := fun _ => by kernel_rfl
  have i4 : ∀ w, (Instr.index 40 (.agg #[.int .i64 d, .int .i64 r, .int .i64 s, .int .i64 m, .int .i64 k, .int .i64 i]) (.int .i64 4)).run Tryz.prog w = .ok (.int .i64 k) w := fun _ => by kernel_rfl
  have i5 : ∀ w, (Instr.index 40 (.agg #[.int .i64 d, .int .i64 r, .int .i64 s, .int .i64 m, .int .i64 k, .int .i64 i]) (.int .i64 5)).run Tryz.prog w = .ok (.int .i64 i) w := fun _ => by kernel_rfl
  match j, hj with
  | 0, _ => exact i0 W
  | 1, _ => exact i1 W
  | 2, _ => exact i2 W
  | 3, _ => exact i3 W
  | 4, _ => exact i4 W
  | 5, _ => exact i5 W

theorem slice_letters (j : Nat) (hj : j < 6) (W : World) : (Instr.slice 9 (.string ⟨#[100, 114, 115, 109, 107, 118]⟩) (some (.int .i64 (j : Int))) (some (.int .i64 (IntKind.i64.wrap ((j : Int) + 1)))) none).run Tryz.prog W = .ok (.string ⟨#[letter j]⟩) W := by
  have i0 : ∀ w, (Instr.slice 9 (.string ⟨#[100, 114, 115, 109, 107, 118]⟩) (some (.int .i64 0)) (some (.int .i64 (IntKind.i64.wrap (0 + 1)))) none).run Tryz.prog w = .ok (.string ⟨#[100]⟩) w := fun _ => by kernel_rfl
  have i1 : ∀ w, (Instr.slice 9 (.string ⟨#[100, 114, 115, 109, 107, 118]⟩) (some (.int .i64 1)) (some (.int .i64 (IntKind.i64.wrap (1 + 1)))) none).run Tryz.prog w = .ok (.string ⟨#[114]⟩) w := fun _ => by kernel_rfl
  have i2 : ∀ w, (Instr.slice 9 (.string ⟨#[100, 114, 115, 109, 107, 118]⟩) (some (.int .i64 2)) (some (.int .i64 (IntKind.i64.wrap (2 + 1)))) none).run Tryz.prog w = .ok (.string ⟨#[115]⟩) w := fun _ => by kernel_rfl
  have i3 : ∀ w, (Instr.slice 9 (.string ⟨#[100, 114, 115, 109, 107, 118]⟩) (some (.int .i64 3)) (some (.int .i64 (IntKind.i64.wrap (3 + 1)))) none).run Tryz.prog w = .ok (.string ⟨#[109]⟩) w := fun _ => by kernel_rfl
  have i4 : ∀ w, (Instr.slice 9 (.string ⟨#[100, 114, 115, 109, 107, 118]⟩) (some (.int .i64 4)) (some (.int .i64 (IntKind.i64.wrap (4 + 1)))) none).run Tryz.prog w = .ok (.string ⟨#[107]⟩) w := fun _ => by kernel_rfl
  have i5 : ∀ w, (Instr.slice 9 (.string ⟨#[100, 114, 115, 109, 107, 118]⟩) (some (.int .i64 5)) (some (.int .i64 (IntKind.i64.wrap (5 + 1)))) none).run Tryz.prog w = .ok (.string ⟨#[118]⟩) w := fun _ => by kernel_rfl
  match j, hj with
  | 0, _ => exact i0 W
  | 1, _ => exact i1 W
  | 2, _ => exact i2 W
  | 3, _ => exact i3 W
  | 4, _ => exact i4 W
  | 5, _ => exact i5 W

set_option maxHeartbeats 4000000 in
set_option maxRecDepth 100000 in
theorem name_yes (b : ByteArray) (i k d r s m : Int) (w : World) (h : slice_Place.f b i k d r s m = some true) (hL : LaidW w) :
    Calls Tryz.prog 6 #[.agg #[.string b, .int .i64 i, .int .i64 k, .int .i64 d, .int .i64 r, .int .i64 s, .int .i64 m]] w fun e w' => e = .returned (.tuple #[.string (nameB b i k d r s m), .int .i64 0]) ∧ Below w.heap.size w w' := by
  have HB := Aside0.mk (Below.refl w.heap.size w)
  have HPl := Aside0.mk h
  have hp : placeB b i k d r s m = true := by
    unfold slice_Place.f at h
    split at h
    · exact Option.some.inj h
    · cases h
  have hq := placeB_iff.1 hp
  have hsh := shapeB_iff.1 hq.1
  have hb60 : b.size ≤ 60 := hq.2.1.2.1
  have hn : ∀ j, 0 ≤ nums i k d r s m j ∧ nums i k d r s m j ≤ 512 := by
    intro j
    have h1 := hq.2.1
    unfold nums
    split <;> omega
  have HN := Aside0.mk hn
  have HLAID := Aside0.mk hL
  clear hp hq hsh hn h hL
  go_enter Tryz.func6, Tryz.ntmps6
  go_wp2_with (first | ((with_reducible refine gate_dst (N := 1) rfl ?_); refine box_event ?hg (N := 1) ?hd (cs := #[.string b, .int .i64 i, .int .i64 k, .int .i64 d, .int .i64 r, .int .i64 s, .int .i64 m]) (t := 25) ?hr ?_; (case hd => rfl); (case hg => rfl); (case hr => first | (go_simp; done) | (go_simp; rfl)); intro gb hg w1 hbox hb; have HB1 := Aside0.mk (below_step HB.out hb); clear HB; have HB := HB1; clear HB1; have BK := Aside0.mk hbox; clear hb hbox hg; have hcw1_0 : w1.cell? ⟨gb, 0, none⟩ = some (.string b) := (blk_cell BK.out 0).trans rfl; have hcw1_1 : w1.cell? ⟨gb, 1, none⟩ = some (.int .i64 i) := (blk_cell BK.out 1).trans rfl; have hcw1_2 : w1.cell? ⟨gb, 2, none⟩ = some (.int .i64 k) := (blk_cell BK.out 2).trans rfl; have hcw1_3 : w1.cell? ⟨gb, 3, none⟩ = some (.int .i64 d) := (blk_cell BK.out 3).trans rfl; have hcw1_4 : w1.cell? ⟨gb, 4, none⟩ = some (.int .i64 r) := (blk_cell BK.out 4).trans rfl; have hcw1_5 : w1.cell? ⟨gb, 5, none⟩ = some (.int .i64 s) := (blk_cell BK.out 5).trans rfl; have hcw1_6 : w1.cell? ⟨gb, 6, none⟩ = some (.int .i64 m) := (blk_cell BK.out 6).trans rfl; have hgb := blk_lt BK.out) | ((with_reducible refine gate_callee (f := 12) rfl ?_); refine goesL_ (some 8) rfl rfl Tryz.func12 (by kernel_rfl) rfl #[.agg #[.string b, .int .i64 i, .int .i64 k, .int .i64 d, .int .i64 r, .int .i64 s, .int .i64 m]] rfl (by (try simp only [List.map_toArray, List.map_cons, List.map_nil]); first | done | rfl) ?_; (with_reducible refine (slice_Place.calls b i k d r s m _ _ HPl.out).mono ?_); rintro e w2 ⟨rfl, hb⟩; refine ⟨_, rfl, ?_⟩; have HB1 := Aside0.mk (below_step (by repeat (first | (with_reducible first | exact HB.out | apply below_alloc | apply pw_below_drewN | apply below_drew1) | exact HB.out)) hb); clear HB; have HB := HB1; clear HB1; have BK1 := Aside0.mk (blk_below (by exact BK.out) hb); clear BK; have BK := BK1; clear BK1; clear hb; have hcw2_0 : w2.cell? ⟨gb, 0, none⟩ = some (.string b) := (blk_cell BK.out 0).trans rfl; have hcw2_1 : w2.cell? ⟨gb, 1, none⟩ = some (.int .i64 i) := (blk_cell BK.out 1).trans rfl; have hcw2_2 : w2.cell? ⟨gb, 2, none⟩ = some (.int .i64 k) := (blk_cell BK.out 2).trans rfl; have hcw2_3 : w2.cell? ⟨gb, 3, none⟩ = some (.int .i64 d) := (blk_cell BK.out 3).trans rfl; have hcw2_4 : w2.cell? ⟨gb, 4, none⟩ = some (.int .i64 r) := (blk_cell BK.out 4).trans rfl; have hcw2_5 : w2.cell? ⟨gb, 5, none⟩ = some (.int .i64 s) := (blk_cell BK.out 5).trans rfl; have hcw2_6 : w2.cell? ⟨gb, 6, none⟩ = some (.int .i64 m) := (blk_cell BK.out 6).trans rfl) | ((with_reducible refine gate_callee (f := 16) rfl ?_); refine goesL_ (some 14) rfl rfl Tryz.func16 (by kernel_rfl) rfl #[.agg #[.string b, .int .i64 i, .int .i64 k, .int .i64 d, .int .i64 r, .int .i64 s, .int .i64 m]] rfl (by (try simp only [List.map_toArray, List.map_cons, List.map_nil]); first | done | rfl) ?_; (with_reducible refine (numbers_calls b i k d r s m _).mono ?_); rintro e w3 ⟨rfl, hb⟩; refine ⟨_, rfl, ?_⟩; have HB1 := Aside0.mk (below_step (by repeat (first | (with_reducible first | exact HB.out | apply below_alloc | apply pw_below_drewN | apply below_drew1) | exact HB.out)) hb); clear HB; have HB := HB1; clear HB1; have BK1 := Aside0.mk (blk_below (by exact BK.out) hb); clear BK; have BK := BK1; clear BK1; clear hb; have hcw3_0 : w3.cell? ⟨gb, 0, none⟩ = some (.string b) := (blk_cell BK.out 0).trans rfl; have hcw3_1 : w3.cell? ⟨gb, 1, none⟩ = some (.int .i64 i) := (blk_cell BK.out 1).trans rfl; have hcw3_2 : w3.cell? ⟨gb, 2, none⟩ = some (.int .i64 k) := (blk_cell BK.out 2).trans rfl; have hcw3_3 : w3.cell? ⟨gb, 3, none⟩ = some (.int .i64 d) := (blk_cell BK.out 3).trans rfl; have hcw3_4 : w3.cell? ⟨gb, 4, none⟩ = some (.int .i64 r) := (blk_cell BK.out 4).trans rfl; have hcw3_5 : w3.cell? ⟨gb, 5, none⟩ = some (.int .i64 s) := (blk_cell BK.out 5).trans rfl; have hcw3_6 : w3.cell? ⟨gb, 6, none⟩ = some (.int .i64 m) := (blk_cell BK.out 6).trans rfl))
  go_loopg [4, 15] 6 (fun gk v4 v15 w' => ∃ (j : Nat) (x4 : ByteArray), v15 = .int .i64 (j : Int) ∧ v4 = .string x4 ∧ j ≤ 6 ∧ Aside0 (6 - j ≤ gk) ∧ Aside0 (x4 = ⟨(nameTo b.data.toList (nums i k d r s m) j).toArray⟩) ∧ x4.size ≤ 61 + 22 * j ∧ Aside0 (Below w.heap.size w w'))
  case atStart =>
    refine ⟨0, b ++ ⟨#[46]⟩, by rfl, rfl, by omega, ⟨by omega⟩, ⟨?_⟩, ?_, HB⟩
    · apply ByteArray.ext
      apply Array.ext'
      simp [nameTo]
    · rw [ByteArray.size_append]
      show b.size + 1 ≤ _
      omega
  case round =>
    obtain ⟨j, x4, rfl, rfl, hj, HG, HX, hx, HB⟩ := hrel
    by_cases hlt : j < 6
    · have hidx := index_nums i k d r s m j hlt
      have hlet := slice_letters j hlt
      have hn0 := (HN.out j).1
      have hn1 := (HN.out j).2
      obtain ⟨n, hn⟩ : ∃ n, nums i k d r s m j = n := ⟨_, rfl⟩
      rw [hn] at hidx hn0 hn1
      have Hn := Aside0.mk hn
      clear hn
      obtain ⟨y, hy⟩ : ∃ y : ByteArray, (⟨(Lib.itoa n).toArray⟩ : ByteArray) = y := ⟨_, rfl⟩
      have hys : y.size ≤ 21 := by
        rw [← hy]
        show (Lib.itoa n).toArray.size ≤ 21
        rw [List.size_toArray]
        exact Lib.itoa_length_le n (by omega) (by omega)
      have HIT := Aside0.mk (show ∀ W, LaidW W → Calls Tryz.prog 17 #[.int .i64 n] W fun e w' => e = .returned (.string y) ∧ Below W.heap.size W w' from fun W h => by
        rw [← hy]
        exact itoa n W (by omega) (by omega) h)
      have Hy := Aside0.mk hy
      clear hy
      have hs1 : (⟨#[letter j]⟩ : ByteArray).size = 1 := rfl
      go_wp2_with fail
      go_region_with (go_at_call 17; refine (HIT.out _ (LaidW.of HLAID (by repeat (first | exact HB.out | apply below_drew1 | apply pw_below_drewN)))).mono ?_; rintro e w4 ⟨rfl, hb⟩)
      have HB5 := Aside0.mk (below_step (show Below w.heap.size w _ from by repeat (first | exact HB.out | apply below_drew1)) hb)
      clear hb HB
      have HX5 : Aside0 (x4 ++ (⟨#[letter j]⟩ ++ y) = ⟨(nameTo b.data.toList (nums i k d r s m) (j + 1)).toArray⟩) := ⟨by
        apply ByteArray.ext
        apply Array.ext'
        rw [nameTo, HX.out, ← Hy.out, Hn.out]
        simp⟩
      have hx5 : (x4 ++ (⟨#[letter j]⟩ ++ y)).size ≤ 61 + 22 * (j + 1) := by
        rw [ByteArray.size_append, ByteArray.size_append, hs1]
        omega
      clear hs1 hidx hlet hn0 hn1 hys HIT Hy Hn HX hx
      generalize x4 ++ (⟨#[letter j]⟩ ++ y) = z at *
      go_wp2
      go_roundg (6 - (j + 1))
      case measure => have := HG.out; omega
      case rel => exact ⟨j + 1, z, by go_num, rfl, by omega, ⟨by omega⟩, HX5, hx5, HB5⟩
    · have : j = 6 := by omega
      subst this
      go_wp2
      go_ret2
      exact ⟨by rw [HX.out]; rfl, HB.out⟩

theorem slice_Name.calls (b : ByteArray) (i k d r s m : Int) (r1 : ByteArray) (r2 : Int) (w : World) (h : slice_Name.f b i k d r s m = some (r1, r2)) (hL : LaidW w := by exact LaidW.of ‹Aside0 (LaidW _)› (by repeat (first | (with_reducible first | exact (‹Aside0 (Below _ _ _)›).out | apply below_alloc | apply pw_below_drewN | apply below_drew1 | refine below_set ?_ (Aside0.out (by assumption))) | exact (‹Aside0 (Below _ _ _)›).out))) :
    Calls Tryz.prog 6 #[.agg #[.string b, .int .i64 i, .int .i64 k, .int .i64 d, .int .i64 r, .int .i64 s, .int .i64 m]] w fun e w' => e = .returned (.tuple #[.string r1, .int .i64 r2]) ∧ Below w.heap.size w w' := by
  unfold slice_Name.f at h
  split at h
  · rename_i hw
    have hf : slice_Place.f b i k d r s m = some (placeB b i k d r s m) := by
      unfold slice_Place.f
      rw [if_pos hw]
    by_cases hp : placeB b i k d r s m = true
    · rw [if_pos hp] at h
      obtain ⟨rfl, rfl⟩ := Prod.mk.inj (Option.some.inj h)
      rw [hp] at hf
      exact name_yes b i k d r s m w hf hL
    · rw [if_neg hp] at h
      obtain ⟨rfl, rfl⟩ := Prod.mk.inj (Option.some.inj h)
      rw [show placeB b i k d r s m = false from by simpa using hp] at hf
      exact name_no b i k d r s m w hf
  · cases h
end Go.Proofs.YtnnkenbcdepafaaGreatDoor.H
