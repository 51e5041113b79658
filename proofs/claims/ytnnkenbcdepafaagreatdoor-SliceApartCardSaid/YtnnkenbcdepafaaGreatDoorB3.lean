/- Walks of functions of the given program, written by a program of this session (hp.py). -/
import Derived.Test.YtnnkenbcdepafaaGreatDoorB0
import Derived.Test.YtnnkenbcdepafaaGreatDoorB2
namespace Go.Proofs.YtnnkenbcdepafaaGreatDoor.B
open Go.RowKit Go.Proofs.YtnnkenbcdepafaaGreatDoorW.PrintWords Go.Proofs.YtnnkenbcdepafaaGreatDoorW.PrintLast Go.Proofs.YtnnkenbcdepafaaGreatDoorW.PrintMore
attribute [local go_sem] max2_int min2_int max_two min_two max_three min_three max_four min_four   -- for this text's walks alone
set_option linter.unusedVariables false
set_option linter.unusedSimpArgs false

/-! ### hamperref26_Digits: function 18 -/
def hamperref26_Digits.f : Nat → Int → Option (ByteArray)
  | 0, _ => none
  | k + 1, a0 => if a0 ≥ 10 then ((hamperref26_Digits.f k (wrap64 (Int.tdiv a0 10))).bind fun t109 => ((some (([(wrap64 (48 + (Int.tmod a0 10))) % 256] : List Int) : List Int)).bind fun y110 => (if t109.size + (strOfNums y110).size ≤ 9223372036854775807 then (some (t109 ++ (strOfNums y110))) else (none)))) else ((some (([(wrap64 (48 + (Int.tmod a0 10))) % 256] : List Int) : List Int)).bind fun y113 => (if 0 + (strOfNums y113).size ≤ 9223372036854775807 then (some ((⟨#[]⟩ : ByteArray) ++ (strOfNums y113))) else (none)))
theorem hamperref26_Digits.mono_l : ∀ k, (∀ y0, LeO (hamperref26_Digits.f k y0) (hamperref26_Digits.f (k + 1) y0))
  | 0 => fun _ r h => by simp [hamperref26_Digits.f] at h
  | k + 1 => by
    have ih0 := hamperref26_Digits.mono_l k
    · intro y0
      unfold hamperref26_Digits.f
      repeat' first
      | (with_reducible exact ih0 _)
      | (with_reducible exact LeO.refl _)
      | (with_reducible exact LeO.none _)
      | (with_reducible refine LeO.ite ?_ ?_)
      | (with_reducible refine LeO.bind ?_ (fun _ => ?_))
      | exact ih0 _
      | exact LeO.none _
      | refine LeO.ite ?_ ?_
      | refine LeO.bind ?_ (fun _ => ?_)
theorem hamperref26_Digits.mono : ∀ a0 k, LeO (hamperref26_Digits.f k a0) (hamperref26_Digits.f (k + 1) a0) := by
  intro a0 k
  have ih0 := hamperref26_Digits.mono_l k
  exact ih0 a0
set_option maxHeartbeats 8000000 in
set_option maxRecDepth 100000 in
theorem hamperref26_Digits.calls (k : Nat) : ∀ (a0 : Int) (r : ByteArray) (w : World) (h : hamperref26_Digits.f k a0 = some r),
    Calls Tryz.prog 18 #[.int .i64 a0] w fun e w' => e = .returned (.string r) ∧ Below w.heap.size w w' := by
  induction k using Nat.strongRecOn with
  | _ k ih =>
  intro a0 r w h
  cases k with
  | zero => exact absurd h (by simp [hamperref26_Digits.f])
  | succ k =>
  simp only [hamperref26_Digits.f] at h
  have HB := Aside0.mk (Below.refl w.heap.size w)
  have H : (if a0 ≥ 10 then ((hamperref26_Digits.f k (wrap64 (Int.tdiv a0 10))).bind fun t109 => ((some (([(wrap64 (48 + (Int.tmod a0 10))) % 256] : List Int) : List Int)).bind fun y110 => (if t109.size + (strOfNums y110).size ≤ 9223372036854775807 then (some (t109 ++ (strOfNums y110))) else (none)))) else ((some (([(wrap64 (48 + (Int.tmod a0 10))) % 256] : List Int) : List Int)).bind fun y113 => (if 0 + (strOfNums y113).size ≤ 9223372036854775807 then (some ((⟨#[]⟩ : ByteArray) ++ (strOfNums y113))) else (none)))) = some r := h
  clear h
  by_cases c2 : a0 ≥ 10
  · rw [if_pos c2] at H
    have c2b0 : decide (10 ≤ a0) = true := decide_eq_true c2
    clear c2
    replace H := Option.bind_eq_some_iff.mp H
    obtain ⟨t109, A30, H⟩ := H
    replace H : ((some (([(wrap64 (48 + (Int.tmod a0 10))) % 256] : List Int) : List Int)).bind fun y110 => (if t109.size + (strOfNums y110).size ≤ 9223372036854775807 then (some (t109 ++ (strOfNums y110))) else (none))) = some r := H
    have A3 := Aside0.mk A30
    clear A30
    obtain ⟨y110, hy110⟩ : ∃ y_ : List Int, y_ = (([(wrap64 (48 + (Int.tmod a0 10))) % 256] : List Int)) := ⟨_, rfl⟩
    replace H : (if t109.size + (strOfNums y110).size ≤ 9223372036854775807 then (some (t109 ++ (strOfNums y110))) else (none)) = some r := by first | (rw [hy110]; with_reducible exact H) | (have H2_ := (Option.bind_some _ _).symm.trans H; rw [hy110]; with_reducible exact H2_) | (have H2_ := (Option.bind_some _ _).symm.trans H; with_reducible exact H2_) | with_reducible exact H | (rw [hy110]; exact H) | exact H
    have Ny110 := Aside0.mk hy110
    clear hy110
    by_cases c4 : t109.size + (strOfNums y110).size ≤ 9223372036854775807
    · rw [if_pos c4] at H
      have c4b0 := eq_true c4
      have c4b1 : decide (t109.size + (strOfNums y110).size ≤ 9223372036854775807) = true := decide_eq_true c4
      try have c4b2 : (9223372036854775807 < t109.size + (strOfNums y110).size) = False := eq_false (Nat.not_lt.2 c4)
      obtain rfl := Option.some.inj H
      go_enter Tryz.func18, Tryz.ntmps18
      go_wp2_with (first | ((with_reducible refine gate_callee (f := 18) rfl ?_); refine goesL_ (some 8) rfl rfl Tryz.func18 (by kernel_rfl) rfl #[.int .i64 (wrap64 (Int.tdiv a0 10))] rfl (by (try simp only [List.map_toArray, List.map_cons, List.map_nil]); first | done | rfl | (simp only [List.length_drop, List.length_take]; rfl)) ?_; (with_reducible refine (ih k (by omega) (wrap64 (Int.tdiv a0 10)) t109 _ A3.out).mono ?_); rintro e w5 ⟨rfl, hb⟩; refine ⟨_, rfl, ?_⟩; have n0_ := Aside0.mk (below_step (by repeat (first | (with_reducible first | exact HB.out | apply below_alloc | apply pw_below_drewN | apply below_drew1) | exact HB.out)) hb); clear HB; have HB := n0_; clear n0_; (try clear hb); (try clear hb2); (try clear hk); (try clear hi)) | ((with_reducible refine gate_dst (N := 14) rfl ?_); refine Kd.R_lit (Kd.int .u8) _ 5 ?hg (N := 14) ?hd (xs := ([(wrap64 (48 + (Int.tmod a0 10))) % 256] : List Int)) (inner := [.int .u8 ((wrap64 (48 + (Int.tmod a0 10))) % 256)]) (ok := fun _ => True) (okp := fun _ => True) ?hr ?hp (fun _ hk => hk) trivial (Below.refl _ _) (Nat.le_refl _) (by simp) ?_; (case hd => rfl); (case hg => rfl); (case hr => first | (go_simp; done) | (go_simp; rfl)); (case hp => exact (Reps.one (show Kd.M (Kd.int .u8) _ _ _ ((wrap64 (48 + (Int.tmod a0 10))) % 256) [.int .u8 ((wrap64 (48 + (Int.tmod a0 10))) % 256)] from rfl) (Reps.none _ _))); intro v111 w6 ho7 hb hg_ hnew_; clear hg_ hnew_; (first | rw [← Ny110.out] at ho7 | (simp only [Int.reduceToNat] at ho7; rw [← Ny110.out] at ho7)); have n0_ := Aside0.mk (Kd.R_lower ho7 (below_size (by repeat (first | (with_reducible first | exact HB.out | apply below_alloc | apply pw_below_drewN | apply below_drew1) | exact HB.out)))); have n1_ := Aside0.mk (below_step (by repeat (first | (with_reducible first | exact HB.out | apply below_alloc | apply pw_below_drewN | apply below_drew1) | exact HB.out)) hb); clear HB; have HO112 := n0_; have HB := n1_; clear n0_ n1_; clear hb ho7; have hcv8 := own_string (P := Tryz.prog) Tryz.underlying54 Tryz.underlying5 Tryz.underlying9 (Kd.own_of_R HO112.out)))
      go_ret
      exact ⟨by first | rfl | (simp [errW_none, errW_some] <;> rfl) | (simp [*, errW_none, errW_some] <;> rfl), by repeat (first | (with_reducible first | exact HB.out | apply below_alloc | apply pw_below_drewN | apply below_drew1) | exact HB.out)⟩
    · rw [if_neg c4] at H
      exact absurd H (by simp)
  · rw [if_neg c2] at H
    have c2b0 : decide (10 ≤ a0) = false := decide_eq_false c2
    clear c2
    obtain ⟨y113, hy113⟩ : ∃ y_ : List Int, y_ = (([(wrap64 (48 + (Int.tmod a0 10))) % 256] : List Int)) := ⟨_, rfl⟩
    replace H : (if 0 + (strOfNums y113).size ≤ 9223372036854775807 then (some ((⟨#[]⟩ : ByteArray) ++ (strOfNums y113))) else (none)) = some r := by first | (rw [hy113]; with_reducible exact H) | (have H2_ := (Option.bind_some _ _).symm.trans H; rw [hy113]; with_reducible exact H2_) | (have H2_ := (Option.bind_some _ _).symm.trans H; with_reducible exact H2_) | with_reducible exact H | (rw [hy113]; exact H) | exact H
    have Ny113 := Aside0.mk hy113
    clear hy113
    by_cases c9 : 0 + (strOfNums y113).size ≤ 9223372036854775807
    · rw [if_pos c9] at H
      have c9b0 := eq_true c9
      have c9b1 : decide (0 + (strOfNums y113).size ≤ 9223372036854775807) = true := decide_eq_true c9
      try have c9b2 : (9223372036854775807 < 0 + (strOfNums y113).size) = False := eq_false (Nat.not_lt.2 c9)
      obtain rfl := Option.some.inj H
      go_enter Tryz.func18, Tryz.ntmps18
      go_wp2_with (first | ((with_reducible refine gate_dst (N := 14) rfl ?_); refine Kd.R_lit (Kd.int .u8) _ 5 ?hg (N := 14) ?hd (xs := ([(wrap64 (48 + (Int.tmod a0 10))) % 256] : List Int)) (inner := [.int .u8 ((wrap64 (48 + (Int.tmod a0 10))) % 256)]) (ok := fun _ => True) (okp := fun _ => True) ?hr ?hp (fun _ hk => hk) trivial (Below.refl _ _) (Nat.le_refl _) (by simp) ?_; (case hd => rfl); (case hg => rfl); (case hr => first | (go_simp; done) | (go_simp; rfl)); (case hp => exact (Reps.one (show Kd.M (Kd.int .u8) _ _ _ ((wrap64 (48 + (Int.tmod a0 10))) % 256) [.int .u8 ((wrap64 (48 + (Int.tmod a0 10))) % 256)] from rfl) (Reps.none _ _))); intro v114 w10 ho11 hb hg_ hnew_; clear hg_ hnew_; (first | rw [← Ny113.out] at ho11 | (simp only [Int.reduceToNat] at ho11; rw [← Ny113.out] at ho11)); have n0_ := Aside0.mk (Kd.R_lower ho11 (below_size (by repeat (first | (with_reducible first | exact HB.out | apply below_alloc | apply pw_below_drewN | apply below_drew1) | exact HB.out)))); have n1_ := Aside0.mk (below_step (by repeat (first | (with_reducible first | exact HB.out | apply below_alloc | apply pw_below_drewN | apply below_drew1) | exact HB.out)) hb); clear HB; have HO115 := n0_; have HB := n1_; clear n0_ n1_; clear hb ho11; have hcv12 := own_string (P := Tryz.prog) Tryz.underlying54 Tryz.underlying5 Tryz.underlying9 (Kd.own_of_R HO115.out)))
      go_ret
      exact ⟨by first | rfl | (simp [errW_none, errW_some] <;> rfl) | (simp [*, errW_none, errW_some] <;> rfl), by repeat (first | (with_reducible first | exact HB.out | apply below_alloc | apply pw_below_drewN | apply below_drew1) | exact HB.out)⟩
    · rw [if_neg c9] at H
      exact absurd H (by simp)

/-! ### hamperref26_Name: function 7 -/
def hamperref26_Name.f (k : Nat) (a0_0 : ByteArray) (a0_1 : Int) (a0_2 : Int) (a0_3 : Int) (a0_4 : Int) (a0_5 : Int) (a0_6 : Int) : Option (ByteArray × Int) := (hamperref26_Place.f k a0_0 a0_1 a0_2 a0_3 a0_4 a0_5 a0_6).bind fun t117 => (if t117 = true then (if a0_0.size + 2 ≤ 9223372036854775807 then ((hamperref26_Digits.f k a0_3).bind fun t118 => (if (a0_0 ++ (⟨#[46, 100]⟩ : ByteArray)).size + t118.size ≤ 9223372036854775807 then (if ((a0_0 ++ (⟨#[46, 100]⟩ : ByteArray)) ++ t118).size + 1 ≤ 9223372036854775807 then ((hamperref26_Digits.f k a0_4).bind fun t119 => (if (((a0_0 ++ (⟨#[46, 100]⟩ : ByteArray)) ++ t118) ++ (⟨#[114]⟩ : ByteArray)).size + t119.size ≤ 9223372036854775807 then (if ((((a0_0 ++ (⟨#[46, 100]⟩ : ByteArray)) ++ t118) ++ (⟨#[114]⟩ : ByteArray)) ++ t119).size + 1 ≤ 9223372036854775807 then ((hamperref26_Digits.f k a0_5).bind fun t120 => (if (((((a0_0 ++ (⟨#[46, 100]⟩ : ByteArray)) ++ t118) ++ (⟨#[114]⟩ : ByteArray)) ++ t119) ++ (⟨#[115]⟩ : ByteArray)).size + t120.size ≤ 9223372036854775807 then (if ((((((a0_0 ++ (⟨#[46, 100]⟩ : ByteArray)) ++ t118) ++ (⟨#[114]⟩ : ByteArray)) ++ t119) ++ (⟨#[115]⟩ : ByteArray)) ++ t120).size + 1 ≤ 9223372036854775807 then ((hamperref26_Digits.f k a0_6).bind fun t121 => (if (((((((a0_0 ++ (⟨#[46, 100]⟩ : ByteArray)) ++ t118) ++ (⟨#[114]⟩ : ByteArray)) ++ t119) ++ (⟨#[115]⟩ : ByteArray)) ++ t120) ++ (⟨#[109]⟩ : ByteArray)).size + t121.size ≤ 9223372036854775807 then (if ((((((((a0_0 ++ (⟨#[46, 100]⟩ : ByteArray)) ++ t118) ++ (⟨#[114]⟩ : ByteArray)) ++ t119) ++ (⟨#[115]⟩ : ByteArray)) ++ t120) ++ (⟨#[109]⟩ : ByteArray)) ++ t121).size + 1 ≤ 9223372036854775807 then ((hamperref26_Digits.f k a0_2).bind fun t122 => (if (((((((((a0_0 ++ (⟨#[46, 100]⟩ : ByteArray)) ++ t118) ++ (⟨#[114]⟩ : ByteArray)) ++ t119) ++ (⟨#[115]⟩ : ByteArray)) ++ t120) ++ (⟨#[109]⟩ : ByteArray)) ++ t121) ++ (⟨#[107]⟩ : ByteArray)).size + t122.size ≤ 9223372036854775807 then (if ((((((((((a0_0 ++ (⟨#[46, 100]⟩ : ByteArray)) ++ t118) ++ (⟨#[114]⟩ : ByteArray)) ++ t119) ++ (⟨#[115]⟩ : ByteArray)) ++ t120) ++ (⟨#[109]⟩ : ByteArray)) ++ t121) ++ (⟨#[107]⟩ : ByteArray)) ++ t122).size + 1 ≤ 9223372036854775807 then ((hamperref26_Digits.f k a0_1).bind fun t123 => (if (((((((((((a0_0 ++ (⟨#[46, 100]⟩ : ByteArray)) ++ t118) ++ (⟨#[114]⟩ : ByteArray)) ++ t119) ++ (⟨#[115]⟩ : ByteArray)) ++ t120) ++ (⟨#[109]⟩ : ByteArray)) ++ t121) ++ (⟨#[107]⟩ : ByteArray)) ++ t122) ++ (⟨#[118]⟩ : ByteArray)).size + t123.size ≤ 9223372036854775807 then (some ((((((((((((a0_0 ++ (⟨#[46, 100]⟩ : ByteArray)) ++ t118) ++ (⟨#[114]⟩ : ByteArray)) ++ t119) ++ (⟨#[115]⟩ : ByteArray)) ++ t120) ++ (⟨#[109]⟩ : ByteArray)) ++ t121) ++ (⟨#[107]⟩ : ByteArray)) ++ t122) ++ (⟨#[118]⟩ : ByteArray)) ++ t123, 0)) else (none))) else (none)) else (none))) else (none)) else (none))) else (none)) else (none))) else (none)) else (none))) else (none)) else (none))) else (none)) else (some ((⟨#[]⟩ : ByteArray), 1)))
theorem hamperref26_Name.mono : ∀ a0 a1 a2 a3 a4 a5 a6 k, LeO (hamperref26_Name.f k a0 a1 a2 a3 a4 a5 a6) (hamperref26_Name.f (k + 1) a0 a1 a2 a3 a4 a5 a6) := by
  intro a0 a1 a2 a3 a4 a5 a6 k
  unfold hamperref26_Name.f
  repeat' first
      | (with_reducible exact hamperref26_Digits.mono _ _)
      | (with_reducible exact hamperref26_Place.mono _ _ _ _ _ _ _ _)
      | (with_reducible exact LeO.refl _)
      | (with_reducible exact LeO.none _)
      | (with_reducible refine LeO.ite ?_ ?_)
      | (with_reducible refine LeO.bind ?_ (fun _ => ?_))
      | exact hamperref26_Digits.mono _ _
      | exact hamperref26_Place.mono _ _ _ _ _ _ _ _
      | exact LeO.none _
      | refine LeO.ite ?_ ?_
      | refine LeO.bind ?_ (fun _ => ?_)
def hamperref26_Name.T3 : Bool × List (List Nat × List Nat) := (true, [([], []), ([0], [0]), ([1], [1]), ([], []), ([3], [3]), ([4], [4]), ([5], [5]), ([2, 6], [2, 6]), ([7], [7]), ([], []), ([9], [9]), ([10], [10]), ([11, 6], [11]), ([8, 12], [8, 12]), ([13], [13]), ([], []), ([15], [15]), ([16], [16]), ([17, 12], [17]), ([14, 18], [14, 18]), ([19], [19]), ([], []), ([21], [21]), ([22], [22]), ([23, 18], [23]), ([20, 24], [20, 24]), ([25], [25]), ([], []), ([27], [27]), ([28, 24], [28]), ([26, 29], [26, 29]), ([30], [30]), ([], []), ([32], [32]), ([33, 29], [33]), ([31, 34], [31, 34]), ([35, 34, 0, 1, 2, 3, 4, 5, 6, 7, 8, 9, 10, 11, 12, 13, 14, 15, 16, 17, 18, 19, 20, 21, 22, 23, 24, 25, 26, 27, 28, 29, 30, 31, 32, 33, 34, 35], [35]), ([36, 0, 1, 2, 3, 4, 5, 6, 7, 8, 9, 10, 11, 12, 13, 14, 15, 16, 17, 18, 19, 20, 21, 22, 23, 24, 25, 26, 27, 28, 29, 30, 31, 32, 33, 34, 35, 36], [])])
def hamperref26_Name.B3 : List Nat := [0, 1, 3, 0, 8, 24, 56, 127, 255, 0, 512, 1536, 3704, 8191, 16383, 0, 32768, 98304, 237176, 524287, 1048575, 0, 2097152, 6291456, 15179384, 33554431, 67108863, 0, 134217728, 434609784, 1073741823, 2147483647, 0, 4294967296, 13856382584, 34359738367, 68719476735, 137438953471]
theorem hamperref26_Name.tab3 : rtab .any (opsOf Tryz.f7 3) = hamperref26_Name.T3 := by kernel_rfl
theorem hamperref26_Name.bits3 : waitsOk hamperref26_Name.T3.2 hamperref26_Name.B3 = true := by kernel_rfl
set_option maxHeartbeats 8000000 in
set_option maxRecDepth 100000 in
theorem hamperref26_Name.calls (k : Nat) (a0_0 : ByteArray) (a0_1 : Int) (a0_2 : Int) (a0_3 : Int) (a0_4 : Int) (a0_5 : Int) (a0_6 : Int) (r1 : ByteArray) (r2 : Int) (w : World) (h : hamperref26_Name.f k a0_0 a0_1 a0_2 a0_3 a0_4 a0_5 a0_6 = some (r1, r2)) :
    Calls Tryz.prog 7 #[.agg #[.string a0_0, .int .i64 a0_1, .int .i64 a0_2, .int .i64 a0_3, .int .i64 a0_4, .int .i64 a0_5, .int .i64 a0_6]] w fun e w' => e = .returned (.tuple #[.string r1, .int .i64 r2]) ∧ Below w.heap.size w w' := by
  have hu25 := Tryz.underlying25
  have HB := Aside0.mk (Below.refl w.heap.size w)
  have H : ((hamperref26_Place.f k a0_0 a0_1 a0_2 a0_3 a0_4 a0_5 a0_6).bind fun t117 => (if t117 = true then (if a0_0.size + 2 ≤ 9223372036854775807 then ((hamperref26_Digits.f k a0_3).bind fun t118 => (if (a0_0 ++ (⟨#[46, 100]⟩ : ByteArray)).size + t118.size ≤ 9223372036854775807 then (if ((a0_0 ++ (⟨#[46, 100]⟩ : ByteArray)) ++ t118).size + 1 ≤ 9223372036854775807 then ((hamperref26_Digits.f k a0_4).bind fun t119 => (if (((a0_0 ++ (⟨#[46, 100]⟩ : ByteArray)) ++ t118) ++ (⟨#[114]⟩ : ByteArray)).size + t119.size ≤ 9223372036854775807 then (if ((((a0_0 ++ (⟨#[46, 100]⟩ : ByteArray)) ++ t118) ++ (⟨#[114]⟩ : ByteArray)) ++ t119).size + 1 ≤ 9223372036854775807 then ((hamperref26_Digits.f k a0_5).bind fun t120 => (if (((((a0_0 ++ (⟨#[46, 100]⟩ : ByteArray)) ++ t118) ++ (⟨#[114]⟩ : ByteArray)) ++ t119) ++ (⟨#[115]⟩ : ByteArray)).size + t120.size ≤ 9223372036854775807 then (if ((((((a0_0 ++ (⟨#[46, 100]⟩ : ByteArray)) ++ t118) ++ (⟨#[114]⟩ : ByteArray)) ++ t119) ++ (⟨#[115]⟩ : ByteArray)) ++ t120).size + 1 ≤ 9223372036854775807 then ((hamperref26_Digits.f k a0_6).bind fun t121 => (if (((((((a0_0 ++ (⟨#[46, 100]⟩ : ByteArray)) ++ t118) ++ (⟨#[114]⟩ : ByteArray)) ++ t119) ++ (⟨#[115]⟩ : ByteArray)) ++ t120) ++ (⟨#[109]⟩ : ByteArray)).size + t121.size ≤ 9223372036854775807 then (if ((((((((a0_0 ++ (⟨#[46, 100]⟩ : ByteArray)) ++ t118) ++ (⟨#[114]⟩ : ByteArray)) ++ t119) ++ (⟨#[115]⟩ : ByteArray)) ++ t120) ++ (⟨#[109]⟩ : ByteArray)) ++ t121).size + 1 ≤ 9223372036854775807 then ((hamperref26_Digits.f k a0_2).bind fun t122 => (if (((((((((a0_0 ++ (⟨#[46, 100]⟩ : ByteArray)) ++ t118) ++ (⟨#[114]⟩ : ByteArray)) ++ t119) ++ (⟨#[115]⟩ : ByteArray)) ++ t120) ++ (⟨#[109]⟩ : ByteArray)) ++ t121) ++ (⟨#[107]⟩ : ByteArray)).size + t122.size ≤ 9223372036854775807 then (if ((((((((((a0_0 ++ (⟨#[46, 100]⟩ : ByteArray)) ++ t118) ++ (⟨#[114]⟩ : ByteArray)) ++ t119) ++ (⟨#[115]⟩ : ByteArray)) ++ t120) ++ (⟨#[109]⟩ : ByteArray)) ++ t121) ++ (⟨#[107]⟩ : ByteArray)) ++ t122).size + 1 ≤ 9223372036854775807 then ((hamperref26_Digits.f k a0_1).bind fun t123 => (if (((((((((((a0_0 ++ (⟨#[46, 100]⟩ : ByteArray)) ++ t118) ++ (⟨#[114]⟩ : ByteArray)) ++ t119) ++ (⟨#[115]⟩ : ByteArray)) ++ t120) ++ (⟨#[109]⟩ : ByteArray)) ++ t121) ++ (⟨#[107]⟩ : ByteArray)) ++ t122) ++ (⟨#[118]⟩ : ByteArray)).size + t123.size ≤ 9223372036854775807 then (some ((((((((((((a0_0 ++ (⟨#[46, 100]⟩ : ByteArray)) ++ t118) ++ (⟨#[114]⟩ : ByteArray)) ++ t119) ++ (⟨#[115]⟩ : ByteArray)) ++ t120) ++ (⟨#[109]⟩ : ByteArray)) ++ t121) ++ (⟨#[107]⟩ : ByteArray)) ++ t122) ++ (⟨#[118]⟩ : ByteArray)) ++ t123, 0)) else (none))) else (none)) else (none))) else (none)) else (none))) else (none)) else (none))) else (none)) else (none))) else (none)) else (none))) else (none)) else (some ((⟨#[]⟩ : ByteArray), 1)))) = some (r1, r2) := h
  clear h
  replace H := Option.bind_eq_some_iff.mp H
  obtain ⟨t117, A20, H⟩ := H
  replace H : (if t117 = true then (if a0_0.size + 2 ≤ 9223372036854775807 then ((hamperref26_Digits.f k a0_3).bind fun t118 => (if (a0_0 ++ (⟨#[46, 100]⟩ : ByteArray)).size + t118.size ≤ 9223372036854775807 then (if ((a0_0 ++ (⟨#[46, 100]⟩ : ByteArray)) ++ t118).size + 1 ≤ 9223372036854775807 then ((hamperref26_Digits.f k a0_4).bind fun t119 => (if (((a0_0 ++ (⟨#[46, 100]⟩ : ByteArray)) ++ t118) ++ (⟨#[114]⟩ : ByteArray)).size + t119.size ≤ 9223372036854775807 then (if ((((a0_0 ++ (⟨#[46, 100]⟩ : ByteArray)) ++ t118) ++ (⟨#[114]⟩ : ByteArray)) ++ t119).size + 1 ≤ 9223372036854775807 then ((hamperref26_Digits.f k a0_5).bind fun t120 => (if (((((a0_0 ++ (⟨#[46, 100]⟩ : ByteArray)) ++ t118) ++ (⟨#[114]⟩ : ByteArray)) ++ t119) ++ (⟨#[115]⟩ : ByteArray)).size + t120.size ≤ 9223372036854775807 then (if ((((((a0_0 ++ (⟨#[46, 100]⟩ : ByteArray)) ++ t118) ++ (⟨#[114]⟩ : ByteArray)) ++ t119) ++ (⟨#[115]⟩ : ByteArray)) ++ t120).size + 1 ≤ 9223372036854775807 then ((hamperref26_Digits.f k a0_6).bind fun t121 => (if (((((((a0_0 ++ (⟨#[46, 100]⟩ : ByteArray)) ++ t118) ++ (⟨#[114]⟩ : ByteArray)) ++ t119) ++ (⟨#[115]⟩ : ByteArray)) ++ t120) ++ (⟨#[109]⟩ : ByteArray)).size + t121.size ≤ 9223372036854775807 then (if ((((((((a0_0 ++ (⟨#[46, 100]⟩ : ByteArray)) ++ t118) ++ (⟨#[114]⟩ : ByteArray)) ++ t119) ++ (⟨#[115]⟩ : ByteArray)) ++ t120) ++ (⟨#[109]⟩ : ByteArray)) ++ t121).size + 1 ≤ 9223372036854775807 then ((hamperref26_Digits.f k a0_2).bind fun t122 => (if (((((((((a0_0 ++ (⟨#[46, 100]⟩ : ByteArray)) ++ t118) ++ (⟨#[114]⟩ : ByteArray)) ++ t119) ++ (⟨#[115]⟩ : ByteArray)) ++ t120) ++ (⟨#[109]⟩ : ByteArray)) ++ t121) ++ (⟨#[107]⟩ : ByteArray)).size + t122.size ≤ 9223372036854775807 then (if ((((((((((a0_0 ++ (⟨#[46, 100]⟩ : ByteArray)) ++ t118) ++ (⟨#[114]⟩ : ByteArray)) ++ t119) ++ (⟨#[115]⟩ : ByteArray)) ++ t120) ++ (⟨#[109]⟩ : ByteArray)) ++ t121) ++ (⟨#[107]⟩ : ByteArray)) ++ t122).size + 1 ≤ 9223372036854775807 then ((hamperref26_Digits.f k a0_1).bind fun t123 => (if (((((((((((a0_0 ++ (⟨#[46, 100]⟩ : ByteArray)) ++ t118) ++ (⟨#[114]⟩ : ByteArray)) ++ t119) ++ (⟨#[115]⟩ : ByteArray)) ++ t120) ++ (⟨#[109]⟩ : ByteArray)) ++ t121) ++ (⟨#[107]⟩ : ByteArray)) ++ t122) ++ (⟨#[118]⟩ : ByteArray)).size + t123.size ≤ 9223372036854775807 then (some ((((((((((((a0_0 ++ (⟨#[46, 100]⟩ : ByteArray)) ++ t118) ++ (⟨#[114]⟩ : ByteArray)) ++ t119) ++ (⟨#[115]⟩ : ByteArray)) ++ t120) ++ (⟨#[109]⟩ : ByteArray)) ++ t121) ++ (⟨#[107]⟩ : ByteArray)) ++ t122) ++ (⟨#[118]⟩ : ByteArray)) ++ t123, 0)) else (none))) else (none)) else (none))) else (none)) else (none))) else (none)) else (none))) else (none)) else (none))) else (none)) else (none))) else (none)) else (some ((⟨#[]⟩ : ByteArray), 1))) = some (r1, r2) := H
  have A2 := Aside0.mk A20
  clear A20
  by_cases c3 : t117 = true
  · subst c3
    have H1 : (if a0_0.size + 2 ≤ 9223372036854775807 then ((hamperref26_Digits.f k a0_3).bind fun t118 => (if (a0_0 ++ (⟨#[46, 100]⟩ : ByteArray)).size + t118.size ≤ 9223372036854775807 then (if ((a0_0 ++ (⟨#[46, 100]⟩ : ByteArray)) ++ t118).size + 1 ≤ 9223372036854775807 then ((hamperref26_Digits.f k a0_4).bind fun t119 => (if (((a0_0 ++ (⟨#[46, 100]⟩ : ByteArray)) ++ t118) ++ (⟨#[114]⟩ : ByteArray)).size + t119.size ≤ 9223372036854775807 then (if ((((a0_0 ++ (⟨#[46, 100]⟩ : ByteArray)) ++ t118) ++ (⟨#[114]⟩ : ByteArray)) ++ t119).size + 1 ≤ 9223372036854775807 then ((hamperref26_Digits.f k a0_5).bind fun t120 => (if (((((a0_0 ++ (⟨#[46, 100]⟩ : ByteArray)) ++ t118) ++ (⟨#[114]⟩ : ByteArray)) ++ t119) ++ (⟨#[115]⟩ : ByteArray)).size + t120.size ≤ 9223372036854775807 then (if ((((((a0_0 ++ (⟨#[46, 100]⟩ : ByteArray)) ++ t118) ++ (⟨#[114]⟩ : ByteArray)) ++ t119) ++ (⟨#[115]⟩ : ByteArray)) ++ t120).size + 1 ≤ 9223372036854775807 then ((hamperref26_Digits.f k a0_6).bind fun t121 => (if (((((((a0_0 ++ (⟨#[46, 100]⟩ : ByteArray)) ++ t118) ++ (⟨#[114]⟩ : ByteArray)) ++ t119) ++ (⟨#[115]⟩ : ByteArray)) ++ t120) ++ (⟨#[109]⟩ : ByteArray)).size + t121.size ≤ 9223372036854775807 then (if ((((((((a0_0 ++ (⟨#[46, 100]⟩ : ByteArray)) ++ t118) ++ (⟨#[114]⟩ : ByteArray)) ++ t119) ++ (⟨#[115]⟩ : ByteArray)) ++ t120) ++ (⟨#[109]⟩ : ByteArray)) ++ t121).size + 1 ≤ 9223372036854775807 then ((hamperref26_Digits.f k a0_2).bind fun t122 => (if (((((((((a0_0 ++ (⟨#[46, 100]⟩ : ByteArray)) ++ t118) ++ (⟨#[114]⟩ : ByteArray)) ++ t119) ++ (⟨#[115]⟩ : ByteArray)) ++ t120) ++ (⟨#[109]⟩ : ByteArray)) ++ t121) ++ (⟨#[107]⟩ : ByteArray)).size + t122.size ≤ 9223372036854775807 then (if ((((((((((a0_0 ++ (⟨#[46, 100]⟩ : ByteArray)) ++ t118) ++ (⟨#[114]⟩ : ByteArray)) ++ t119) ++ (⟨#[115]⟩ : ByteArray)) ++ t120) ++ (⟨#[109]⟩ : ByteArray)) ++ t121) ++ (⟨#[107]⟩ : ByteArray)) ++ t122).size + 1 ≤ 9223372036854775807 then ((hamperref26_Digits.f k a0_1).bind fun t123 => (if (((((((((((a0_0 ++ (⟨#[46, 100]⟩ : ByteArray)) ++ t118) ++ (⟨#[114]⟩ : ByteArray)) ++ t119) ++ (⟨#[115]⟩ : ByteArray)) ++ t120) ++ (⟨#[109]⟩ : ByteArray)) ++ t121) ++ (⟨#[107]⟩ : ByteArray)) ++ t122) ++ (⟨#[118]⟩ : ByteArray)).size + t123.size ≤ 9223372036854775807 then (some ((((((((((((a0_0 ++ (⟨#[46, 100]⟩ : ByteArray)) ++ t118) ++ (⟨#[114]⟩ : ByteArray)) ++ t119) ++ (⟨#[115]⟩ : ByteArray)) ++ t120) ++ (⟨#[109]⟩ : ByteArray)) ++ t121) ++ (⟨#[107]⟩ : ByteArray)) ++ t122) ++ (⟨#[118]⟩ : ByteArray)) ++ t123, 0)) else (none))) else (none)) else (none))) else (none)) else (none))) else (none)) else (none))) else (none)) else (none))) else (none)) else (none))) else (none)) = some (r1, r2) := by rw [if_pos rfl] at H; exact H
    clear H
    have H := H1
    clear H1
    by_cases c4 : a0_0.size + 2 ≤ 9223372036854775807
    · rw [if_pos c4] at H
      have c4b0 := eq_true c4
      have c4b1 : decide (a0_0.size + 2 ≤ 9223372036854775807) = true := decide_eq_true c4
      try have c4b2 : (9223372036854775807 < a0_0.size + 2) = False := eq_false (Nat.not_lt.2 c4)
      replace H := Option.bind_eq_some_iff.mp H
      obtain ⟨t118, A50, H⟩ := H
      replace H : (if (a0_0 ++ (⟨#[46, 100]⟩ : ByteArray)).size + t118.size ≤ 9223372036854775807 then (if ((a0_0 ++ (⟨#[46, 100]⟩ : ByteArray)) ++ t118).size + 1 ≤ 9223372036854775807 then ((hamperref26_Digits.f k a0_4).bind fun t119 => (if (((a0_0 ++ (⟨#[46, 100]⟩ : ByteArray)) ++ t118) ++ (⟨#[114]⟩ : ByteArray)).size + t119.size ≤ 9223372036854775807 then (if ((((a0_0 ++ (⟨#[46, 100]⟩ : ByteArray)) ++ t118) ++ (⟨#[114]⟩ : ByteArray)) ++ t119).size + 1 ≤ 9223372036854775807 then ((hamperref26_Digits.f k a0_5).bind fun t120 => (if (((((a0_0 ++ (⟨#[46, 100]⟩ : ByteArray)) ++ t118) ++ (⟨#[114]⟩ : ByteArray)) ++ t119) ++ (⟨#[115]⟩ : ByteArray)).size + t120.size ≤ 9223372036854775807 then (if ((((((a0_0 ++ (⟨#[46, 100]⟩ : ByteArray)) ++ t118) ++ (⟨#[114]⟩ : ByteArray)) ++ t119) ++ (⟨#[115]⟩ : ByteArray)) ++ t120).size + 1 ≤ 9223372036854775807 then ((hamperref26_Digits.f k a0_6).bind fun t121 => (if (((((((a0_0 ++ (⟨#[46, 100]⟩ : ByteArray)) ++ t118) ++ (⟨#[114]⟩ : ByteArray)) ++ t119) ++ (⟨#[115]⟩ : ByteArray)) ++ t120) ++ (⟨#[109]⟩ : ByteArray)).size + t121.size ≤ 9223372036854775807 then (if ((((((((a0_0 ++ (⟨#[46, 100]⟩ : ByteArray)) ++ t118) ++ (⟨#[114]⟩ : ByteArray)) ++ t119) ++ (⟨#[115]⟩ : ByteArray)) ++ t120) ++ (⟨#[109]⟩ : ByteArray)) ++ t121).size + 1 ≤ 9223372036854775807 then ((hamperref26_Digits.f k a0_2).bind fun t122 => (if (((((((((a0_0 ++ (⟨#[46, 100]⟩ : ByteArray)) ++ t118) ++ (⟨#[114]⟩ : ByteArray)) ++ t119) ++ (⟨#[115]⟩ : ByteArray)) ++ t120) ++ (⟨#[109]⟩ : ByteArray)) ++ t121) ++ (⟨#[107]⟩ : ByteArray)).size + t122.size ≤ 9223372036854775807 then (if ((((((((((a0_0 ++ (⟨#[46, 100]⟩ : ByteArray)) ++ t118) ++ (⟨#[114]⟩ : ByteArray)) ++ t119) ++ (⟨#[115]⟩ : ByteArray)) ++ t120) ++ (⟨#[109]⟩ : ByteArray)) ++ t121) ++ (⟨#[107]⟩ : ByteArray)) ++ t122).size + 1 ≤ 9223372036854775807 then ((hamperref26_Digits.f k a0_1).bind fun t123 => (if (((((((((((a0_0 ++ (⟨#[46, 100]⟩ : ByteArray)) ++ t118) ++ (⟨#[114]⟩ : ByteArray)) ++ t119) ++ (⟨#[115]⟩ : ByteArray)) ++ t120) ++ (⟨#[109]⟩ : ByteArray)) ++ t121) ++ (⟨#[107]⟩ : ByteArray)) ++ t122) ++ (⟨#[118]⟩ : ByteArray)).size + t123.size ≤ 9223372036854775807 then (some ((((((((((((a0_0 ++ (⟨#[46, 100]⟩ : ByteArray)) ++ t118) ++ (⟨#[114]⟩ : ByteArray)) ++ t119) ++ (⟨#[115]⟩ : ByteArray)) ++ t120) ++ (⟨#[109]⟩ : ByteArray)) ++ t121) ++ (⟨#[107]⟩ : ByteArray)) ++ t122) ++ (⟨#[118]⟩ : ByteArray)) ++ t123, 0)) else (none))) else (none)) else (none))) else (none)) else (none))) else (none)) else (none))) else (none)) else (none))) else (none)) else (none)) = some (r1, r2) := H
      have A5 := Aside0.mk A50
      clear A50
      by_cases c6 : (a0_0 ++ (⟨#[46, 100]⟩ : ByteArray)).size + t118.size ≤ 9223372036854775807
      · rw [if_pos c6] at H
        have c6b0 := eq_true c6
        have c6b1 : decide ((a0_0 ++ (⟨#[46, 100]⟩ : ByteArray)).size + t118.size ≤ 9223372036854775807) = true := decide_eq_true c6
        try have c6b2 : (9223372036854775807 < (a0_0 ++ (⟨#[46, 100]⟩ : ByteArray)).size + t118.size) = False := eq_false (Nat.not_lt.2 c6)
        (try simp only [ByteArray.size_append, Int.natCast_add] at c6b0)
        (try simp only [ByteArray.size_append, Int.natCast_add] at c6b1)
        (try simp only [ByteArray.size_append, Int.natCast_add] at c6b2)
        (try simp only [ByteArray.size_append, Int.natCast_add] at c6b3)
        (try rw [show (⟨#[46, 100]⟩ : ByteArray).size = 2 from rfl] at c6b0)
        (try rw [show (⟨#[46, 100]⟩ : ByteArray).size = 2 from rfl] at c6b1)
        (try rw [show (⟨#[46, 100]⟩ : ByteArray).size = 2 from rfl] at c6b2)
        (try rw [show (⟨#[46, 100]⟩ : ByteArray).size = 2 from rfl] at c6b3)
        by_cases c7 : ((a0_0 ++ (⟨#[46, 100]⟩ : ByteArray)) ++ t118).size + 1 ≤ 9223372036854775807
        · rw [if_pos c7] at H
          have c7b0 := eq_true c7
          have c7b1 : decide (((a0_0 ++ (⟨#[46, 100]⟩ : ByteArray)) ++ t118).size + 1 ≤ 9223372036854775807) = true := decide_eq_true c7
          try have c7b2 : (9223372036854775807 < ((a0_0 ++ (⟨#[46, 100]⟩ : ByteArray)) ++ t118).size + 1) = False := eq_false (Nat.not_lt.2 c7)
          (try simp only [ByteArray.size_append, Int.natCast_add] at c7b0)
          (try simp only [ByteArray.size_append, Int.natCast_add] at c7b1)
          (try simp only [ByteArray.size_append, Int.natCast_add] at c7b2)
          (try simp only [ByteArray.size_append, Int.natCast_add] at c7b3)
          (try rw [show (⟨#[46, 100]⟩ : ByteArray).size = 2 from rfl] at c7b0)
          (try rw [show (⟨#[46, 100]⟩ : ByteArray).size = 2 from rfl] at c7b1)
          (try rw [show (⟨#[46, 100]⟩ : ByteArray).size = 2 from rfl] at c7b2)
          (try rw [show (⟨#[46, 100]⟩ : ByteArray).size = 2 from rfl] at c7b3)
          replace H := Option.bind_eq_some_iff.mp H
          obtain ⟨t119, A80, H⟩ := H
          replace H : (if (((a0_0 ++ (⟨#[46, 100]⟩ : ByteArray)) ++ t118) ++ (⟨#[114]⟩ : ByteArray)).size + t119.size ≤ 9223372036854775807 then (if ((((a0_0 ++ (⟨#[46, 100]⟩ : ByteArray)) ++ t118) ++ (⟨#[114]⟩ : ByteArray)) ++ t119).size + 1 ≤ 9223372036854775807 then ((hamperref26_Digits.f k a0_5).bind fun t120 => (if (((((a0_0 ++ (⟨#[46, 100]⟩ : ByteArray)) ++ t118) ++ (⟨#[114]⟩ : ByteArray)) ++ t119) ++ (⟨#[115]⟩ : ByteArray)).size + t120.size ≤ 9223372036854775807 then (if ((((((a0_0 ++ (⟨#[46, 100]⟩ : ByteArray)) ++ t118) ++ (⟨#[114]⟩ : ByteArray)) ++ t119) ++ (⟨#[115]⟩ : ByteArray)) ++ t120).size + 1 ≤ 9223372036854775807 then ((hamperref26_Digits.f k a0_6).bind fun t121 => (if (((((((a0_0 ++ (⟨#[46, 100]⟩ : ByteArray)) ++ t118) ++ (⟨#[114]⟩ : ByteArray)) ++ t119) ++ (⟨#[115]⟩ : ByteArray)) ++ t120) ++ (⟨#[109]⟩ : ByteArray)).size + t121.size ≤ 9223372036854775807 then (if ((((((((a0_0 ++ (⟨#[46, 100]⟩ : ByteArray)) ++ t118) ++ (⟨#[114]⟩ : ByteArray)) ++ t119) ++ (⟨#[115]⟩ : ByteArray)) ++ t120) ++ (⟨#[109]⟩ : ByteArray)) ++ t121).size + 1 ≤ 9223372036854775807 then ((hamperref26_Digits.f k a0_2).bind fun t122 => (if (((((((((a0_0 ++ (⟨#[46, 100]⟩ : ByteArray)) ++ t118) ++ (⟨#[114]⟩ : ByteArray)) ++ t119) ++ (⟨#[115]⟩ : ByteArray)) ++ t120) ++ (⟨#[109]⟩ : ByteArray)) ++ t121) ++ (⟨#[107]⟩ : ByteArray)).size + t122.size ≤ 9223372036854775807 then (if ((((((((((a0_0 ++ (⟨#[46, 100]⟩ : ByteArray)) ++ t118) ++ (⟨#[114]⟩ : ByteArray)) ++ t119) ++ (⟨#[115]⟩ : ByteArray)) ++ t120) ++ (⟨#[109]⟩ : ByteArray)) ++ t121) ++ (⟨#[107]⟩ : ByteArray)) ++ t122).size + 1 ≤ 9223372036854775807 then ((hamperref26_Digits.f k a0_1).bind fun t123 => (if (((((((((((a0_0 ++ (⟨#[46, 100]⟩ : ByteArray)) ++ t118) ++ (⟨#[114]⟩ : ByteArray)) ++ t119) ++ (⟨#[115]⟩ : ByteArray)) ++ t120) ++ (⟨#[109]⟩ : ByteArray)) ++ t121) ++ (⟨#[107]⟩ : ByteArray)) ++ t122) ++ (⟨#[118]⟩ : ByteArray)).size + t123.size ≤ 9223372036854775807 then (some ((((((((((((a0_0 ++ (⟨#[46, 100]⟩ : ByteArray)) ++ t118) ++ (⟨#[114]⟩ : ByteArray)) ++ t119) ++ (⟨#[115]⟩ : ByteArray)) ++ t120) ++ (⟨#[109]⟩ : ByteArray)) ++ t121) ++ (⟨#[107]⟩ : ByteArray)) ++ t122) ++ (⟨#[118]⟩ : ByteArray)) ++ t123, 0)) else (none))) else (none)) else (none))) else (none)) else (none))) else (none)) else (none))) else (none)) else (none)) = some (r1, r2) := H
          have A8 := Aside0.mk A80
          clear A80
          by_cases c9 : (((a0_0 ++ (⟨#[46, 100]⟩ : ByteArray)) ++ t118) ++ (⟨#[114]⟩ : ByteArray)).size + t119.size ≤ 9223372036854775807
          · rw [if_pos c9] at H
            have c9b0 := eq_true c9
            have c9b1 : decide ((((a0_0 ++ (⟨#[46, 100]⟩ : ByteArray)) ++ t118) ++ (⟨#[114]⟩ : ByteArray)).size + t119.size ≤ 9223372036854775807) = true := decide_eq_true c9
            try have c9b2 : (9223372036854775807 < (((a0_0 ++ (⟨#[46, 100]⟩ : ByteArray)) ++ t118) ++ (⟨#[114]⟩ : ByteArray)).size + t119.size) = False := eq_false (Nat.not_lt.2 c9)
            (try simp only [ByteArray.size_append, Int.natCast_add] at c9b0)
            (try simp only [ByteArray.size_append, Int.natCast_add] at c9b1)
            (try simp only [ByteArray.size_append, Int.natCast_add] at c9b2)
            (try simp only [ByteArray.size_append, Int.natCast_add] at c9b3)
            (try rw [show (⟨#[114]⟩ : ByteArray).size = 1 from rfl] at c9b0)
            (try rw [show (⟨#[114]⟩ : ByteArray).size = 1 from rfl] at c9b1)
            (try rw [show (⟨#[114]⟩ : ByteArray).size = 1 from rfl] at c9b2)
            (try rw [show (⟨#[114]⟩ : ByteArray).size = 1 from rfl] at c9b3)
            (try rw [show (⟨#[46, 100]⟩ : ByteArray).size = 2 from rfl] at c9b0)
            (try rw [show (⟨#[46, 100]⟩ : ByteArray).size = 2 from rfl] at c9b1)
            (try rw [show (⟨#[46, 100]⟩ : ByteArray).size = 2 from rfl] at c9b2)
            (try rw [show (⟨#[46, 100]⟩ : ByteArray).size = 2 from rfl] at c9b3)
            by_cases c10 : ((((a0_0 ++ (⟨#[46, 100]⟩ : ByteArray)) ++ t118) ++ (⟨#[114]⟩ : ByteArray)) ++ t119).size + 1 ≤ 9223372036854775807
            · rw [if_pos c10] at H
              have c10b0 := eq_true c10
              have c10b1 : decide (((((a0_0 ++ (⟨#[46, 100]⟩ : ByteArray)) ++ t118) ++ (⟨#[114]⟩ : ByteArray)) ++ t119).size + 1 ≤ 9223372036854775807) = true := decide_eq_true c10
              try have c10b2 : (9223372036854775807 < ((((a0_0 ++ (⟨#[46, 100]⟩ : ByteArray)) ++ t118) ++ (⟨#[114]⟩ : ByteArray)) ++ t119).size + 1) = False := eq_false (Nat.not_lt.2 c10)
              (try simp only [ByteArray.size_append, Int.natCast_add] at c10b0)
              (try simp only [ByteArray.size_append, Int.natCast_add] at c10b1)
              (try simp only [ByteArray.size_append, Int.natCast_add] at c10b2)
              (try simp only [ByteArray.size_append, Int.natCast_add] at c10b3)
              (try rw [show (⟨#[114]⟩ : ByteArray).size = 1 from rfl] at c10b0)
              (try rw [show (⟨#[114]⟩ : ByteArray).size = 1 from rfl] at c10b1)
              (try rw [show (⟨#[114]⟩ : ByteArray).size = 1 from rfl] at c10b2)
              (try rw [show (⟨#[114]⟩ : ByteArray).size = 1 from rfl] at c10b3)
              (try rw [show (⟨#[46, 100]⟩ : ByteArray).size = 2 from rfl] at c10b0)
              (try rw [show (⟨#[46, 100]⟩ : ByteArray).size = 2 from rfl] at c10b1)
              (try rw [show (⟨#[46, 100]⟩ : ByteArray).size = 2 from rfl] at c10b2)
              (try rw [show (⟨#[46, 100]⟩ : ByteArray).size = 2 from rfl] at c10b3)
              replace H := Option.bind_eq_some_iff.mp H
              obtain ⟨t120, A110, H⟩ := H
              replace H : (if (((((a0_0 ++ (⟨#[46, 100]⟩ : ByteArray)) ++ t118) ++ (⟨#[114]⟩ : ByteArray)) ++ t119) ++ (⟨#[115]⟩ : ByteArray)).size + t120.size ≤ 9223372036854775807 then (if ((((((a0_0 ++ (⟨#[46, 100]⟩ : ByteArray)) ++ t118) ++ (⟨#[114]⟩ : ByteArray)) ++ t119) ++ (⟨#[115]⟩ : ByteArray)) ++ t120).size + 1 ≤ 9223372036854775807 then ((hamperref26_Digits.f k a0_6).bind fun t121 => (if (((((((a0_0 ++ (⟨#[46, 100]⟩ : ByteArray)) ++ t118) ++ (⟨#[114]⟩ : ByteArray)) ++ t119) ++ (⟨#[115]⟩ : ByteArray)) ++ t120) ++ (⟨#[109]⟩ : ByteArray)).size + t121.size ≤ 9223372036854775807 then (if ((((((((a0_0 ++ (⟨#[46, 100]⟩ : ByteArray)) ++ t118) ++ (⟨#[114]⟩ : ByteArray)) ++ t119) ++ (⟨#[115]⟩ : ByteArray)) ++ t120) ++ (⟨#[109]⟩ : ByteArray)) ++ t121).size + 1 ≤ 9223372036854775807 then ((hamperref26_Digits.f k a0_2).bind fun t122 => (if (((((((((a0_0 ++ (⟨#[46, 100]⟩ : ByteArray)) ++ t118) ++ (⟨#[114]⟩ : ByteArray)) ++ t119) ++ (⟨#[115]⟩ : ByteArray)) ++ t120) ++ (⟨#[109]⟩ : ByteArray)) ++ t121) ++ (⟨#[107]⟩ : ByteArray)).size + t122.size ≤ 9223372036854775807 then (if ((((((((((a0_0 ++ (⟨#[46, 100]⟩ : ByteArray)) ++ t118) ++ (⟨#[114]⟩ : ByteArray)) ++ t119) ++ (⟨#[115]⟩ : ByteArray)) ++ t120) ++ (⟨#[109]⟩ : ByteArray)) ++ t121) ++ (⟨#[107]⟩ : ByteArray)) ++ t122).size + 1 ≤ 9223372036854775807 then ((hamperref26_Digits.f k a0_1).bind fun t123 => (if (((((((((((a0_0 ++ (⟨#[46, 100]⟩ : ByteArray)) ++ t118) ++ (⟨#[114]⟩ : ByteArray)) ++ t119) ++ (⟨#[115]⟩ : ByteArray)) ++ t120) ++ (⟨#[109]⟩ : ByteArray)) ++ t121) ++ (⟨#[107]⟩ : ByteArray)) ++ t122) ++ (⟨#[118]⟩ : ByteArray)).size + t123.size ≤ 9223372036854775807 then (some ((((((((((((a0_0 ++ (⟨#[46, 100]⟩ : ByteArray)) ++ t118) ++ (⟨#[114]⟩ : ByteArray)) ++ t119) ++ (⟨#[115]⟩ : ByteArray)) ++ t120) ++ (⟨#[109]⟩ : ByteArray)) ++ t121) ++ (⟨#[107]⟩ : ByteArray)) ++ t122) ++ (⟨#[118]⟩ : ByteArray)) ++ t123, 0)) else (none))) else (none)) else (none))) else (none)) else (none))) else (none)) else (none)) = some (r1, r2) := H
              have A11 := Aside0.mk A110
              clear A110
              by_cases c12 : (((((a0_0 ++ (⟨#[46, 100]⟩ : ByteArray)) ++ t118) ++ (⟨#[114]⟩ : ByteArray)) ++ t119) ++ (⟨#[115]⟩ : ByteArray)).size + t120.size ≤ 9223372036854775807
              · rw [if_pos c12] at H
                have c12b0 := eq_true c12
                have c12b1 : decide ((((((a0_0 ++ (⟨#[46, 100]⟩ : ByteArray)) ++ t118) ++ (⟨#[114]⟩ : ByteArray)) ++ t119) ++ (⟨#[115]⟩ : ByteArray)).size + t120.size ≤ 9223372036854775807) = true := decide_eq_true c12
                try have c12b2 : (9223372036854775807 < (((((a0_0 ++ (⟨#[46, 100]⟩ : ByteArray)) ++ t118) ++ (⟨#[114]⟩ : ByteArray)) ++ t119) ++ (⟨#[115]⟩ : ByteArray)).size + t120.size) = False := eq_false (Nat.not_lt.2 c12)
                (try simp only [ByteArray.size_append, Int.natCast_add] at c12b0)
                (try simp only [ByteArray.size_append, Int.natCast_add] at c12b1)
                (try simp only [ByteArray.size_append, Int.natCast_add] at c12b2)
                (try simp only [ByteArray.size_append, Int.natCast_add] at c12b3)
                (try rw [show (⟨#[114]⟩ : ByteArray).size = 1 from rfl] at c12b0)
                (try rw [show (⟨#[114]⟩ : ByteArray).size = 1 from rfl] at c12b1)
                (try rw [show (⟨#[114]⟩ : ByteArray).size = 1 from rfl] at c12b2)
                (try rw [show (⟨#[114]⟩ : ByteArray).size = 1 from rfl] at c12b3)
                (try rw [show (⟨#[115]⟩ : ByteArray).size = 1 from rfl] at c12b0)
                (try rw [show (⟨#[115]⟩ : ByteArray).size = 1 from rfl] at c12b1)
                (try rw [show (⟨#[115]⟩ : ByteArray).size = 1 from rfl] at c12b2)
                (try rw [show (⟨#[115]⟩ : ByteArray).size = 1 from rfl] at c12b3)
                (try rw [show (⟨#[46, 100]⟩ : ByteArray).size = 2 from rfl] at c12b0)
                (try rw [show (⟨#[46, 100]⟩ : ByteArray).size = 2 from rfl] at c12b1)
                (try rw [show (⟨#[46, 100]⟩ : ByteArray).size = 2 from rfl] at c12b2)
                (try rw [show (⟨#[46, 100]⟩ : ByteArray).size = 2 from rfl] at c12b3)
                by_cases c13 : ((((((a0_0 ++ (⟨#[46, 100]⟩ : ByteArray)) ++ t118) ++ (⟨#[114]⟩ : ByteArray)) ++ t119) ++ (⟨#[115]⟩ : ByteArray)) ++ t120).size + 1 ≤ 9223372036854775807
                · rw [if_pos c13] at H
                  have c13b0 := eq_true c13
                  have c13b1 : decide (((((((a0_0 ++ (⟨#[46, 100]⟩ : ByteArray)) ++ t118) ++ (⟨#[114]⟩ : ByteArray)) ++ t119) ++ (⟨#[115]⟩ : ByteArray)) ++ t120).size + 1 ≤ 9223372036854775807) = true := decide_eq_true c13
                  try have c13b2 : (9223372036854775807 < ((((((a0_0 ++ (⟨#[46, 100]⟩ : ByteArray)) ++ t118) ++ (⟨#[114]⟩ : ByteArray)) ++ t119) ++ (⟨#[115]⟩ : ByteArray)) ++ t120).size + 1) = False := eq_false (Nat.not_lt.2 c13)
                  (try simp only [ByteArray.size_append, Int.natCast_add] at c13b0)
                  (try simp only [ByteArray.size_append, Int.natCast_add] at c13b1)
                  (try simp only [ByteArray.size_append, Int.natCast_add] at c13b2)
                  (try simp only [ByteArray.size_append, Int.natCast_add] at c13b3)
                  (try rw [show (⟨#[114]⟩ : ByteArray).size = 1 from rfl] at c13b0)
                  (try rw [show (⟨#[114]⟩ : ByteArray).size = 1 from rfl] at c13b1)
                  (try rw [show (⟨#[114]⟩ : ByteArray).size = 1 from rfl] at c13b2)
                  (try rw [show (⟨#[114]⟩ : ByteArray).size = 1 from rfl] at c13b3)
                  (try rw [show (⟨#[115]⟩ : ByteArray).size = 1 from rfl] at c13b0)
                  (try rw [show (⟨#[115]⟩ : ByteArray).size = 1 from rfl] at c13b1)
                  (try rw [show (⟨#[115]⟩ : ByteArray).size = 1 from rfl] at c13b2)
                  (try rw [show (⟨#[115]⟩ : ByteArray).size = 1 from rfl] at c13b3)
                  (try rw [show (⟨#[46, 100]⟩ : ByteArray).size = 2 from rfl] at c13b0)
                  (try rw [show (⟨#[46, 100]⟩ : ByteArray).size = 2 from rfl] at c13b1)
                  (try rw [show (⟨#[46, 100]⟩ : ByteArray).size = 2 from rfl] at c13b2)
                  (try rw [show (⟨#[46, 100]⟩ : ByteArray).size = 2 from rfl] at c13b3)
                  replace H := Option.bind_eq_some_iff.mp H
                  obtain ⟨t121, A140, H⟩ := H
                  replace H : (if (((((((a0_0 ++ (⟨#[46, 100]⟩ : ByteArray)) ++ t118) ++ (⟨#[114]⟩ : ByteArray)) ++ t119) ++ (⟨#[115]⟩ : ByteArray)) ++ t120) ++ (⟨#[109]⟩ : ByteArray)).size + t121.size ≤ 9223372036854775807 then (if ((((((((a0_0 ++ (⟨#[46, 100]⟩ : ByteArray)) ++ t118) ++ (⟨#[114]⟩ : ByteArray)) ++ t119) ++ (⟨#[115]⟩ : ByteArray)) ++ t120) ++ (⟨#[109]⟩ : ByteArray)) ++ t121).size + 1 ≤ 9223372036854775807 then ((hamperref26_Digits.f k a0_2).bind fun t122 => (if (((((((((a0_0 ++ (⟨#[46, 100]⟩ : ByteArray)) ++ t118) ++ (⟨#[114]⟩ : ByteArray)) ++ t119) ++ (⟨#[115]⟩ : ByteArray)) ++ t120) ++ (⟨#[109]⟩ : ByteArray)) ++ t121) ++ (⟨#[107]⟩ : ByteArray)).size + t122.size ≤ 9223372036854775807 then (if ((((((((((a0_0 ++ (⟨#[46, 100]⟩ : ByteArray)) ++ t118) ++ (⟨#[114]⟩ : ByteArray)) ++ t119) ++ (⟨#[115]⟩ : ByteArray)) ++ t120) ++ (⟨#[109]⟩ : ByteArray)) ++ t121) ++ (⟨#[107]⟩ : ByteArray)) ++ t122).size + 1 ≤ 9223372036854775807 then ((hamperref26_Digits.f k a0_1).bind fun t123 => (if (((((((((((a0_0 ++ (⟨#[46, 100]⟩ : ByteArray)) ++ t118) ++ (⟨#[114]⟩ : ByteArray)) ++ t119) ++ (⟨#[115]⟩ : ByteArray)) ++ t120) ++ (⟨#[109]⟩ : ByteArray)) ++ t121) ++ (⟨#[107]⟩ : ByteArray)) ++ t122) ++ (⟨#[118]⟩ : ByteArray)).size + t123.size ≤ 9223372036854775807 then (some ((((((((((((a0_0 ++ (⟨#[46, 100]⟩ : ByteArray)) ++ t118) ++ (⟨#[114]⟩ : ByteArray)) ++ t119) ++ (⟨#[115]⟩ : ByteArray)) ++ t120) ++ (⟨#[109]⟩ : ByteArray)) ++ t121) ++ (⟨#[107]⟩ : ByteArray)) ++ t122) ++ (⟨#[118]⟩ : ByteArray)) ++ t123, 0)) else (none))) else (none)) else (none))) else (none)) else (none)) = some (r1, r2) := H
                  have A14 := Aside0.mk A140
                  clear A140
                  by_cases c15 : (((((((a0_0 ++ (⟨#[46, 100]⟩ : ByteArray)) ++ t118) ++ (⟨#[114]⟩ : ByteArray)) ++ t119) ++ (⟨#[115]⟩ : ByteArray)) ++ t120) ++ (⟨#[109]⟩ : ByteArray)).size + t121.size ≤ 9223372036854775807
                  · rw [if_pos c15] at H
                    have c15b0 := eq_true c15
                    have c15b1 : decide ((((((((a0_0 ++ (⟨#[46, 100]⟩ : ByteArray)) ++ t118) ++ (⟨#[114]⟩ : ByteArray)) ++ t119) ++ (⟨#[115]⟩ : ByteArray)) ++ t120) ++ (⟨#[109]⟩ : ByteArray)).size + t121.size ≤ 9223372036854775807) = true := decide_eq_true c15
                    try have c15b2 : (9223372036854775807 < (((((((a0_0 ++ (⟨#[46, 100]⟩ : ByteArray)) ++ t118) ++ (⟨#[114]⟩ : ByteArray)) ++ t119) ++ (⟨#[115]⟩ : ByteArray)) ++ t120) ++ (⟨#[109]⟩ : ByteArray)).size + t121.size) = False := eq_false (Nat.not_lt.2 c15)
                    (try simp only [ByteArray.size_append, Int.natCast_add] at c15b0)
                    (try simp only [ByteArray.size_append, Int.natCast_add] at c15b1)
                    (try simp only [ByteArray.size_append, Int.natCast_add] at c15b2)
                    (try simp only [ByteArray.size_append, Int.natCast_add] at c15b3)
                    (try rw [show (⟨#[109]⟩ : ByteArray).size = 1 from rfl] at c15b0)
                    (try rw [show (⟨#[109]⟩ : ByteArray).size = 1 from rfl] at c15b1)
                    (try rw [show (⟨#[109]⟩ : ByteArray).size = 1 from rfl] at c15b2)
                    (try rw [show (⟨#[109]⟩ : ByteArray).size = 1 from rfl] at c15b3)
                    (try rw [show (⟨#[114]⟩ : ByteArray).size = 1 from rfl] at c15b0)
                    (try rw [show (⟨#[114]⟩ : ByteArray).size = 1 from rfl] at c15b1)
                    (try rw [show (⟨#[114]⟩ : ByteArray).size = 1 from rfl] at c15b2)
                    (try rw [show (⟨#[114]⟩ : ByteArray).size = 1 from rfl] at c15b3)
                    (try rw [show (⟨#[115]⟩ : ByteArray).size = 1 from rfl] at c15b0)
                    (try rw [show (⟨#[115]⟩ : ByteArray).size = 1 from rfl] at c15b1)
                    (try rw [show (⟨#[115]⟩ : ByteArray).size = 1 from rfl] at c15b2)
                    (try rw [show (⟨#[115]⟩ : ByteArray).size = 1 from rfl] at c15b3)
                    (try rw [show (⟨#[46, 100]⟩ : ByteArray).size = 2 from rfl] at c15b0)
                    (try rw [show (⟨#[46, 100]⟩ : ByteArray).size = 2 from rfl] at c15b1)
                    (try rw [show (⟨#[46, 100]⟩ : ByteArray).size = 2 from rfl] at c15b2)
                    (try rw [show (⟨#[46, 100]⟩ : ByteArray).size = 2 from rfl] at c15b3)
                    by_cases c16 : ((((((((a0_0 ++ (⟨#[46, 100]⟩ : ByteArray)) ++ t118) ++ (⟨#[114]⟩ : ByteArray)) ++ t119) ++ (⟨#[115]⟩ : ByteArray)) ++ t120) ++ (⟨#[109]⟩ : ByteArray)) ++ t121).size + 1 ≤ 9223372036854775807
                    · rw [if_pos c16] at H
                      have c16b0 := eq_true c16
                      have c16b1 : decide (((((((((a0_0 ++ (⟨#[46, 100]⟩ : ByteArray)) ++ t118) ++ (⟨#[114]⟩ : ByteArray)) ++ t119) ++ (⟨#[115]⟩ : ByteArray)) ++ t120) ++ (⟨#[109]⟩ : ByteArray)) ++ t121).size + 1 ≤ 9223372036854775807) = true := decide_eq_true c16
                      try have c16b2 : (9223372036854775807 < ((((((((a0_0 ++ (⟨#[46, 100]⟩ : ByteArray)) ++ t118) ++ (⟨#[114]⟩ : ByteArray)) ++ t119) ++ (⟨#[115]⟩ : ByteArray)) ++ t120) ++ (⟨#[109]⟩ : ByteArray)) ++ t121).size + 1) = False := eq_false (Nat.not_lt.2 c16)
                      (try simp only [ByteArray.size_append, Int.natCast_add] at c16b0)
                      (try simp only [ByteArray.size_append, Int.natCast_add] at c16b1)
                      (try simp only [ByteArray.size_append, Int.natCast_add] at c16b2)
                      (try simp only [ByteArray.size_append, Int.natCast_add] at c16b3)
                      (try rw [show (⟨#[109]⟩ : ByteArray).size = 1 from rfl] at c16b0)
                      (try rw [show (⟨#[109]⟩ : ByteArray).size = 1 from rfl] at c16b1)
                      (try rw [show (⟨#[109]⟩ : ByteArray).size = 1 from rfl] at c16b2)
                      (try rw [show (⟨#[109]⟩ : ByteArray).size = 1 from rfl] at c16b3)
                      (try rw [show (⟨#[114]⟩ : ByteArray).size = 1 from rfl] at c16b0)
                      (try rw [show (⟨#[114]⟩ : ByteArray).size = 1 from rfl] at c16b1)
                      (try rw [show (⟨#[114]⟩ : ByteArray).size = 1 from rfl] at c16b2)
                      (try rw [show (⟨#[114]⟩ : ByteArray).size = 1 from rfl] at c16b3)
                      (try rw [show (⟨#[115]⟩ : ByteArray).size = 1 from rfl] at c16b0)
                      (try rw [show (⟨#[115]⟩ : ByteArray).size = 1 from rfl] at c16b1)
                      (try rw [show (⟨#[115]⟩ : ByteArray).size = 1 from rfl] at c16b2)
                      (try rw [show (⟨#[115]⟩ : ByteArray).size = 1 from rfl] at c16b3)
                      (try rw [show (⟨#[46, 100]⟩ : ByteArray).size = 2 from rfl] at c16b0)
                      (try rw [show (⟨#[46, 100]⟩ : ByteArray).size = 2 from rfl] at c16b1)
                      (try rw [show (⟨#[46, 100]⟩ : ByteArray).size = 2 from rfl] at c16b2)
                      (try rw [show (⟨#[46, 100]⟩ : ByteArray).size = 2 from rfl] at c16b3)
                      replace H := Option.bind_eq_some_iff.mp H
                      obtain ⟨t122, A170, H⟩ := H
                      replace H : (if (((((((((a0_0 ++ (⟨#[46, 100]⟩ : ByteArray)) ++ t118) ++ (⟨#[114]⟩ : ByteArray)) ++ t119) ++ (⟨#[115]⟩ : ByteArray)) ++ t120) ++ (⟨#[109]⟩ : ByteArray)) ++ t121) ++ (⟨#[107]⟩ : ByteArray)).size + t122.size ≤ 9223372036854775807 then (if ((((((((((a0_0 ++ (⟨#[46, 100]⟩ : ByteArray)) ++ t118) ++ (⟨#[114]⟩ : ByteArray)) ++ t119) ++ (⟨#[115]⟩ : ByteArray)) ++ t120) ++ (⟨#[109]⟩ : ByteArray)) ++ t121) ++ (⟨#[107]⟩ : ByteArray)) ++ t122).size + 1 ≤ 9223372036854775807 then ((hamperref26_Digits.f k a0_1).bind fun t123 => (if (((((((((((a0_0 ++ (⟨#[46, 100]⟩ : ByteArray)) ++ t118) ++ (⟨#[114]⟩ : ByteArray)) ++ t119) ++ (⟨#[115]⟩ : ByteArray)) ++ t120) ++ (⟨#[109]⟩ : ByteArray)) ++ t121) ++ (⟨#[107]⟩ : ByteArray)) ++ t122) ++ (⟨#[118]⟩ : ByteArray)).size + t123.size ≤ 9223372036854775807 then (some ((((((((((((a0_0 ++ (⟨#[46, 100]⟩ : ByteArray)) ++ t118) ++ (⟨#[114]⟩ : ByteArray)) ++ t119) ++ (⟨#[115]⟩ : ByteArray)) ++ t120) ++ (⟨#[109]⟩ : ByteArray)) ++ t121) ++ (⟨#[107]⟩ : ByteArray)) ++ t122) ++ (⟨#[118]⟩ : ByteArray)) ++ t123, 0)) else (none))) else (none)) else (none)) = some (r1, r2) := H
                      have A17 := Aside0.mk A170
                      clear A170
                      by_cases c18 : (((((((((a0_0 ++ (⟨#[46, 100]⟩ : ByteArray)) ++ t118) ++ (⟨#[114]⟩ : ByteArray)) ++ t119) ++ (⟨#[115]⟩ : ByteArray)) ++ t120) ++ (⟨#[109]⟩ : ByteArray)) ++ t121) ++ (⟨#[107]⟩ : ByteArray)).size + t122.size ≤ 9223372036854775807
                      · rw [if_pos c18] at H
                        have c18b0 := eq_true c18
                        have c18b1 : decide ((((((((((a0_0 ++ (⟨#[46, 100]⟩ : ByteArray)) ++ t118) ++ (⟨#[114]⟩ : ByteArray)) ++ t119) ++ (⟨#[115]⟩ : ByteArray)) ++ t120) ++ (⟨#[109]⟩ : ByteArray)) ++ t121) ++ (⟨#[107]⟩ : ByteArray)).size + t122.size ≤ 9223372036854775807) = true := decide_eq_true c18
                        try have c18b2 : (9223372036854775807 < (((((((((a0_0 ++ (⟨#[46, 100]⟩ : ByteArray)) ++ t118) ++ (⟨#[114]⟩ : ByteArray)) ++ t119) ++ (⟨#[115]⟩ : ByteArray)) ++ t120) ++ (⟨#[109]⟩ : ByteArray)) ++ t121) ++ (⟨#[107]⟩ : ByteArray)).size + t122.size) = False := eq_false (Nat.not_lt.2 c18)
                        (try simp only [ByteArray.size_append, Int.natCast_add] at c18b0)
                        (try simp only [ByteArray.size_append, Int.natCast_add] at c18b1)
                        (try simp only [ByteArray.size_append, Int.natCast_add] at c18b2)
                        (try simp only [ByteArray.size_append, Int.natCast_add] at c18b3)
                        (try rw [show (⟨#[107]⟩ : ByteArray).size = 1 from rfl] at c18b0)
                        (try rw [show (⟨#[107]⟩ : ByteArray).size = 1 from rfl] at c18b1)
                        (try rw [show (⟨#[107]⟩ : ByteArray).size = 1 from rfl] at c18b2)
                        (try rw [show (⟨#[107]⟩ : ByteArray).size = 1 from rfl] at c18b3)
                        (try rw [show (⟨#[109]⟩ : ByteArray).size = 1 from rfl] at c18b0)
                        (try rw [show (⟨#[109]⟩ : ByteArray).size = 1 from rfl] at c18b1)
                        (try rw [show (⟨#[109]⟩ : ByteArray).size = 1 from rfl] at c18b2)
                        (try rw [show (⟨#[109]⟩ : ByteArray).size = 1 from rfl] at c18b3)
                        (try rw [show (⟨#[114]⟩ : ByteArray).size = 1 from rfl] at c18b0)
                        (try rw [show (⟨#[114]⟩ : ByteArray).size = 1 from rfl] at c18b1)
                        (try rw [show (⟨#[114]⟩ : ByteArray).size = 1 from rfl] at c18b2)
                        (try rw [show (⟨#[114]⟩ : ByteArray).size = 1 from rfl] at c18b3)
                        (try rw [show (⟨#[115]⟩ : ByteArray).size = 1 from rfl] at c18b0)
                        (try rw [show (⟨#[115]⟩ : ByteArray).size = 1 from rfl] at c18b1)
                        (try rw [show (⟨#[115]⟩ : ByteArray).size = 1 from rfl] at c18b2)
                        (try rw [show (⟨#[115]⟩ : ByteArray).size = 1 from rfl] at c18b3)
                        (try rw [show (⟨#[46, 100]⟩ : ByteArray).size = 2 from rfl] at c18b0)
                        (try rw [show (⟨#[46, 100]⟩ : ByteArray).size = 2 from rfl] at c18b1)
                        (try rw [show (⟨#[46, 100]⟩ : ByteArray).size = 2 from rfl] at c18b2)
                        (try rw [show (⟨#[46, 100]⟩ : ByteArray).size = 2 from rfl] at c18b3)
                        by_cases c19 : ((((((((((a0_0 ++ (⟨#[46, 100]⟩ : ByteArray)) ++ t118) ++ (⟨#[114]⟩ : ByteArray)) ++ t119) ++ (⟨#[115]⟩ : ByteArray)) ++ t120) ++ (⟨#[109]⟩ : ByteArray)) ++ t121) ++ (⟨#[107]⟩ : ByteArray)) ++ t122).size + 1 ≤ 9223372036854775807
                        · rw [if_pos c19] at H
                          have c19b0 := eq_true c19
                          have c19b1 : decide (((((((((((a0_0 ++ (⟨#[46, 100]⟩ : ByteArray)) ++ t118) ++ (⟨#[114]⟩ : ByteArray)) ++ t119) ++ (⟨#[115]⟩ : ByteArray)) ++ t120) ++ (⟨#[109]⟩ : ByteArray)) ++ t121) ++ (⟨#[107]⟩ : ByteArray)) ++ t122).size + 1 ≤ 9223372036854775807) = true := decide_eq_true c19
                          try have c19b2 : (9223372036854775807 < ((((((((((a0_0 ++ (⟨#[46, 100]⟩ : ByteArray)) ++ t118) ++ (⟨#[114]⟩ : ByteArray)) ++ t119) ++ (⟨#[115]⟩ : ByteArray)) ++ t120) ++ (⟨#[109]⟩ : ByteArray)) ++ t121) ++ (⟨#[107]⟩ : ByteArray)) ++ t122).size + 1) = False := eq_false (Nat.not_lt.2 c19)
                          (try simp only [ByteArray.size_append, Int.natCast_add] at c19b0)
                          (try simp only [ByteArray.size_append, Int.natCast_add] at c19b1)
                          (try simp only [ByteArray.size_append, Int.natCast_add] at c19b2)
                          (try simp only [ByteArray.size_append, Int.natCast_add] at c19b3)
                          (try rw [show (⟨#[107]⟩ : ByteArray).size = 1 from rfl] at c19b0)
                          (try rw [show (⟨#[107]⟩ : ByteArray).size = 1 from rfl] at c19b1)
                          (try rw [show (⟨#[107]⟩ : ByteArray).size = 1 from rfl] at c19b2)
                          (try rw [show (⟨#[107]⟩ : ByteArray).size = 1 from rfl] at c19b3)
                          (try rw [show (⟨#[109]⟩ : ByteArray).size = 1 from rfl] at c19b0)
                          (try rw [show (⟨#[109]⟩ : ByteArray).size = 1 from rfl] at c19b1)
                          (try rw [show (⟨#[109]⟩ : ByteArray).size = 1 from rfl] at c19b2)
                          (try rw [show (⟨#[109]⟩ : ByteArray).size = 1 from rfl] at c19b3)
                          (try rw [show (⟨#[114]⟩ : ByteArray).size = 1 from rfl] at c19b0)
                          (try rw [show (⟨#[114]⟩ : ByteArray).size = 1 from rfl] at c19b1)
                          (try rw [show (⟨#[114]⟩ : ByteArray).size = 1 from rfl] at c19b2)
                          (try rw [show (⟨#[114]⟩ : ByteArray).size = 1 from rfl] at c19b3)
                          (try rw [show (⟨#[115]⟩ : ByteArray).size = 1 from rfl] at c19b0)
                          (try rw [show (⟨#[115]⟩ : ByteArray).size = 1 from rfl] at c19b1)
                          (try rw [show (⟨#[115]⟩ : ByteArray).size = 1 from rfl] at c19b2)
                          (try rw [show (⟨#[115]⟩ : ByteArray).size = 1 from rfl] at c19b3)
                          (try rw [show (⟨#[46, 100]⟩ : ByteArray).size = 2 from rfl] at c19b0)
                          (try rw [show (⟨#[46, 100]⟩ : ByteArray).size = 2 from rfl] at c19b1)
                          (try rw [show (⟨#[46, 100]⟩ : ByteArray).size = 2 from rfl] at c19b2)
                          (try rw [show (⟨#[46, 100]⟩ : ByteArray).size = 2 from rfl] at c19b3)
                          replace H := Option.bind_eq_some_iff.mp H
                          obtain ⟨t123, A200, H⟩ := H
                          replace H : (if (((((((((((a0_0 ++ (⟨#[46, 100]⟩ : ByteArray)) ++ t118) ++ (⟨#[114]⟩ : ByteArray)) ++ t119) ++ (⟨#[115]⟩ : ByteArray)) ++ t120) ++ (⟨#[109]⟩ : ByteArray)) ++ t121) ++ (⟨#[107]⟩ : ByteArray)) ++ t122) ++ (⟨#[118]⟩ : ByteArray)).size + t123.size ≤ 9223372036854775807 then (some ((((((((((((a0_0 ++ (⟨#[46, 100]⟩ : ByteArray)) ++ t118) ++ (⟨#[114]⟩ : ByteArray)) ++ t119) ++ (⟨#[115]⟩ : ByteArray)) ++ t120) ++ (⟨#[109]⟩ : ByteArray)) ++ t121) ++ (⟨#[107]⟩ : ByteArray)) ++ t122) ++ (⟨#[118]⟩ : ByteArray)) ++ t123, 0)) else (none)) = some (r1, r2) := H
                          have A20 := Aside0.mk A200
                          clear A200
                          by_cases c21 : (((((((((((a0_0 ++ (⟨#[46, 100]⟩ : ByteArray)) ++ t118) ++ (⟨#[114]⟩ : ByteArray)) ++ t119) ++ (⟨#[115]⟩ : ByteArray)) ++ t120) ++ (⟨#[109]⟩ : ByteArray)) ++ t121) ++ (⟨#[107]⟩ : ByteArray)) ++ t122) ++ (⟨#[118]⟩ : ByteArray)).size + t123.size ≤ 9223372036854775807
                          · rw [if_pos c21] at H
                            have c21b0 := eq_true c21
                            have c21b1 : decide ((((((((((((a0_0 ++ (⟨#[46, 100]⟩ : ByteArray)) ++ t118) ++ (⟨#[114]⟩ : ByteArray)) ++ t119) ++ (⟨#[115]⟩ : ByteArray)) ++ t120) ++ (⟨#[109]⟩ : ByteArray)) ++ t121) ++ (⟨#[107]⟩ : ByteArray)) ++ t122) ++ (⟨#[118]⟩ : ByteArray)).size + t123.size ≤ 9223372036854775807) = true := decide_eq_true c21
                            try have c21b2 : (9223372036854775807 < (((((((((((a0_0 ++ (⟨#[46, 100]⟩ : ByteArray)) ++ t118) ++ (⟨#[114]⟩ : ByteArray)) ++ t119) ++ (⟨#[115]⟩ : ByteArray)) ++ t120) ++ (⟨#[109]⟩ : ByteArray)) ++ t121) ++ (⟨#[107]⟩ : ByteArray)) ++ t122) ++ (⟨#[118]⟩ : ByteArray)).size + t123.size) = False := eq_false (Nat.not_lt.2 c21)
                            (try simp only [ByteArray.size_append, Int.natCast_add] at c21b0)
                            (try simp only [ByteArray.size_append, Int.natCast_add] at c21b1)
                            (try simp only [ByteArray.size_append, Int.natCast_add] at c21b2)
                            (try simp only [ByteArray.size_append, Int.natCast_add] at c21b3)
                            (try rw [show (⟨#[107]⟩ : ByteArray).size = 1 from rfl] at c21b0)
                            (try rw [show (⟨#[107]⟩ : ByteArray).size = 1 from rfl] at c21b1)
                            (try rw [show (⟨#[107]⟩ : ByteArray).size = 1 from rfl] at c21b2)
                            (try rw [show (⟨#[107]⟩ : ByteArray).size = 1 from rfl] at c21b3)
                            (try rw [show (⟨#[109]⟩ : ByteArray).size = 1 from rfl] at c21b0)
                            (try rw [show (⟨#[109]⟩ : ByteArray).size = 1 from rfl] at c21b1)
                            (try rw [show (⟨#[109]⟩ : ByteArray).size = 1 from rfl] at c21b2)
                            (try rw [show (⟨#[109]⟩ : ByteArray).size = 1 from rfl] at c21b3)
                            (try rw [show (⟨#[114]⟩ : ByteArray).size = 1 from rfl] at c21b0)
                            (try rw [show (⟨#[114]⟩ : ByteArray).size = 1 from rfl] at c21b1)
                            (try rw [show (⟨#[114]⟩ : ByteArray).size = 1 from rfl] at c21b2)
                            (try rw [show (⟨#[114]⟩ : ByteArray).size = 1 from rfl] at c21b3)
                            (try rw [show (⟨#[115]⟩ : ByteArray).size = 1 from rfl] at c21b0)
                            (try rw [show (⟨#[115]⟩ : ByteArray).size = 1 from rfl] at c21b1)
                            (try rw [show (⟨#[115]⟩ : ByteArray).size = 1 from rfl] at c21b2)
                            (try rw [show (⟨#[115]⟩ : ByteArray).size = 1 from rfl] at c21b3)
                            (try rw [show (⟨#[118]⟩ : ByteArray).size = 1 from rfl] at c21b0)
                            (try rw [show (⟨#[118]⟩ : ByteArray).size = 1 from rfl] at c21b1)
                            (try rw [show (⟨#[118]⟩ : ByteArray).size = 1 from rfl] at c21b2)
                            (try rw [show (⟨#[118]⟩ : ByteArray).size = 1 from rfl] at c21b3)
                            (try rw [show (⟨#[46, 100]⟩ : ByteArray).size = 2 from rfl] at c21b0)
                            (try rw [show (⟨#[46, 100]⟩ : ByteArray).size = 2 from rfl] at c21b1)
                            (try rw [show (⟨#[46, 100]⟩ : ByteArray).size = 2 from rfl] at c21b2)
                            (try rw [show (⟨#[46, 100]⟩ : ByteArray).size = 2 from rfl] at c21b3)
                            simp only [Option.some.injEq, Prod.mk.injEq] at H
                            obtain ⟨rfl, rfl⟩ := H
                            go_enter Tryz.func7, Tryz.ntmps7
                            try go_wp2_with (first | ((with_reducible refine gate_dst (N := 1) rfl ?_); refine box_event ?hg (N := 1) ?hd (cs := #[.string a0_0, .int .i64 a0_1, .int .i64 a0_2, .int .i64 a0_3, .int .i64 a0_4, .int .i64 a0_5, .int .i64 a0_6]) (t := 25) ?hr ?_; (case hd => rfl); (case hg => rfl); (case hr => first | (go_simp; done) | (go_simp; rfl)); intro gb116 hg w22 hbox hb; have n0_ := Aside0.mk (below_step (by repeat (first | (with_reducible first | exact HB.out | apply below_alloc | apply pw_below_drewN | apply below_drew1) | exact HB.out)) hb); have n1_ := Aside0.mk (hbox); have n2_ := Aside0.mk ((by rw [hg]; exact (below_size (by repeat (first | (with_reducible first | exact HB.out | apply below_alloc | apply pw_below_drewN | apply below_drew1) | exact HB.out))) : w.heap.size ≤ gb116)); have n3_ := Aside0.mk ((by rw [hg]; exact (below_size (by repeat (first | (with_reducible first | exact HB.out | apply below_alloc | apply pw_below_drewN | apply below_drew1) | exact HB.out))) : w.heap.size ≤ gb116)); clear HB; have HB := n0_; have BK116 := n1_; have GW116 := n2_; have GE116 := n3_; clear n0_ n1_ n2_ n3_; clear hb hbox hg; have hcz23_0 : w22.cell? ⟨gb116, 0, none⟩ = some (.string a0_0) := (blk_cell BK116.out 0).trans rfl; have hcz23_1 : w22.cell? ⟨gb116, 1, none⟩ = some (.int .i64 a0_1) := (blk_cell BK116.out 1).trans rfl; have hcz23_2 : w22.cell? ⟨gb116, 2, none⟩ = some (.int .i64 a0_2) := (blk_cell BK116.out 2).trans rfl; have hcz23_3 : w22.cell? ⟨gb116, 3, none⟩ = some (.int .i64 a0_3) := (blk_cell BK116.out 3).trans rfl; have hcz23_4 : w22.cell? ⟨gb116, 4, none⟩ = some (.int .i64 a0_4) := (blk_cell BK116.out 4).trans rfl; have hcz23_5 : w22.cell? ⟨gb116, 5, none⟩ = some (.int .i64 a0_5) := (blk_cell BK116.out 5).trans rfl; have hcz23_6 : w22.cell? ⟨gb116, 6, none⟩ = some (.int .i64 a0_6) := (blk_cell BK116.out 6).trans rfl; have hfz23_0 := blk_frozen BK116.out 0; have hfz23_1 := blk_frozen BK116.out 1; have hfz23_2 := blk_frozen BK116.out 2; have hfz23_3 := blk_frozen BK116.out 3; have hfz23_4 := blk_frozen BK116.out 4; have hfz23_5 := blk_frozen BK116.out 5; have hfz23_6 := blk_frozen BK116.out 6) | ((with_reducible refine gate_callee (f := 13) rfl ?_); refine goesL_ (some 5) rfl rfl Tryz.func13 (by kernel_rfl) rfl #[.agg #[.string a0_0, .int .i64 a0_1, .int .i64 a0_2, .int .i64 a0_3, .int .i64 a0_4, .int .i64 a0_5, .int .i64 a0_6]] rfl (by (try simp only [List.map_toArray, List.map_cons, List.map_nil]); first | done | rfl | (simp only [List.length_drop, List.length_take]; rfl)) ?_; (with_reducible refine (hamperref26_Place.calls k a0_0 a0_1 a0_2 a0_3 a0_4 a0_5 a0_6 true _ A2.out).mono ?_); rintro e w24 ⟨rfl, hb⟩; refine ⟨_, rfl, ?_⟩; have n0_ := Aside0.mk (blk_below (g := gb116) (o := .cells #[.string a0_0, .int .i64 a0_1, .int .i64 a0_2, .int .i64 a0_3, .int .i64 a0_4, .int .i64 a0_5, .int .i64 a0_6] 25 (0, 0)) (by (with_reducible repeat (first | refine blk_drewN ?_ _ | refine blk_drew ?_ | refine blk_alloc ?_ _)); exact BK116.out) hb); have n1_ := Aside0.mk (below_step (by repeat (first | (with_reducible first | exact HB.out | apply below_alloc | apply pw_below_drewN | apply below_drew1 | refine below_set ?_ GE116.out) | exact HB.out)) hb); clear BK116; clear HB; have BK116 := n0_; have HB := n1_; clear n0_ n1_; (try clear hb); (try clear hb2); (try clear hk); (try clear hi)))
                            have n0_ := Aside0.mk (blk_drew BK116.out)
                            have n1_ := Aside0.mk (below_drew1 HB.out)
                            clear BK116
                            clear HB
                            have BK116 := n0_
                            have HB := n1_
                            clear n0_ n1_
                            refine start_ (n := 38) (S := fun w' => w'.cell? ⟨gb116, 0, none⟩ = some (.string a0_0) ∧ w'.cell? ⟨gb116, 1, none⟩ = some (.int .i64 a0_1) ∧ w'.cell? ⟨gb116, 2, none⟩ = some (.int .i64 a0_2) ∧ w'.cell? ⟨gb116, 3, none⟩ = some (.int .i64 a0_3) ∧ w'.cell? ⟨gb116, 4, none⟩ = some (.int .i64 a0_4) ∧ w'.cell? ⟨gb116, 5, none⟩ = some (.int .i64 a0_5) ∧ w'.cell? ⟨gb116, 6, none⟩ = some (.int .i64 a0_6)) (ds := []) #[false, false, false, false, false, false, false, false, false, false, false, false, false, false, false, false, false, false, false, false, false, false, false, false, false, false, false, false, false, false, false, false, false, false, false, false, false, false] (by kernel_rfl) rfl rfl ⟨(blk_cell BK116.out 0).trans rfl, (blk_cell BK116.out 1).trans rfl, (blk_cell BK116.out 2).trans rfl, (blk_cell BK116.out 3).trans rfl, (blk_cell BK116.out 4).trans rfl, (blk_cell BK116.out 5).trans rfl, (blk_cell BK116.out 6).trans rfl⟩ (fun hHeld => ?_); refine with_tabW hamperref26_Name.tab3 hamperref26_Name.bits3 (fun HT_ HW_ => ?_)
                            generalize w24.drew = w25 at BK116 HB hHeld ⊢
                            refine pure_ (i := 0) (N := some 7) (v := ?_) (a' := ?_) #[true, false, false, false, false, false, false, false, false, false, false, false, false, false, false, false, false, false, false, false, false, false, false, false, false, false, false, false, false, false, false, false, false, false, false, false, false, false] rfl rfl (any_of HT_.out (by kernel_rfl)) (fun _ _ _ h => h) (Or.inl ⟨by rfl, ?_⟩) ?_ ?_
                            rotate_left
                            · intro w'
                              go_simp
                              with_reducible rfl
                            rotate_left
                            · simp only [Act.put, List.setIfInBounds_toArray, List.set_cons_zero, List.set_cons_succ, i64_w, i32_w]
                              rfl
                            refine pure_ (i := 3) (N := some 10) (v := ?_) (a' := ?_) #[true, false, false, true, false, false, false, false, false, false, false, false, false, false, false, false, false, false, false, false, false, false, false, false, false, false, false, false, false, false, false, false, false, false, false, false, false, false] rfl rfl (any_of HT_.out (by kernel_rfl)) (fun _ _ _ h => h) (Or.inl ⟨by rfl, ?_⟩) ?_ ?_
                            rotate_left
                            · intro w'
                              go_simp
                              with_reducible rfl
                            rotate_left
                            · simp only [Act.put, List.setIfInBounds_toArray, List.set_cons_zero, List.set_cons_succ, i64_w, i32_w]
                              rfl
                            refine pure_ (i := 4) (N := some 11) (v := ?_) (a' := ?_) #[true, false, false, true, true, false, false, false, false, false, false, false, false, false, false, false, false, false, false, false, false, false, false, false, false, false, false, false, false, false, false, false, false, false, false, false, false, false] rfl rfl (any_of HT_.out (by kernel_rfl)) (fun _ _ _ h => h) (Or.inl ⟨by rfl, ?_⟩) ?_ ?_
                            rotate_left
                            · intro w'
                              go_simp
                              with_reducible rfl
                            rotate_left
                            · simp only [Act.put, List.setIfInBounds_toArray, List.set_cons_zero, List.set_cons_succ, i64_w, i32_w]
                              rfl
                            refine pure_ (i := 9) (N := some 16) (v := ?_) (a' := ?_) #[true, false, false, true, true, false, false, false, false, true, false, false, false, false, false, false, false, false, false, false, false, false, false, false, false, false, false, false, false, false, false, false, false, false, false, false, false, false] rfl rfl (any_of HT_.out (by kernel_rfl)) (fun _ _ _ h => h) (Or.inl ⟨by rfl, ?_⟩) ?_ ?_
                            rotate_left
                            · intro w'
                              go_simp
                              with_reducible rfl
                            rotate_left
                            · simp only [Act.put, List.setIfInBounds_toArray, List.set_cons_zero, List.set_cons_succ, i64_w, i32_w]
                              rfl
                            refine pure_ (i := 10) (N := some 17) (v := ?_) (a' := ?_) #[true, false, false, true, true, false, false, false, false, true, true, false, false, false, false, false, false, false, false, false, false, false, false, false, false, false, false, false, false, false, false, false, false, false, false, false, false, false] rfl rfl (any_of HT_.out (by kernel_rfl)) (fun _ _ _ h => h) (Or.inl ⟨by rfl, ?_⟩) ?_ ?_
                            rotate_left
                            · intro w'
                              go_simp
                              with_reducible rfl
                            rotate_left
                            · simp only [Act.put, List.setIfInBounds_toArray, List.set_cons_zero, List.set_cons_succ, i64_w, i32_w]
                              rfl
                            refine pure_ (i := 15) (N := some 22) (v := ?_) (a' := ?_) #[true, false, false, true, true, false, false, false, false, true, true, false, false, false, false, true, false, false, false, false, false, false, false, false, false, false, false, false, false, false, false, false, false, false, false, false, false, false] rfl rfl (any_of HT_.out (by kernel_rfl)) (fun _ _ _ h => h) (Or.inl ⟨by rfl, ?_⟩) ?_ ?_
                            rotate_left
                            · intro w'
                              go_simp
                              with_reducible rfl
                            rotate_left
                            · simp only [Act.put, List.setIfInBounds_toArray, List.set_cons_zero, List.set_cons_succ, i64_w, i32_w]
                              rfl
                            refine pure_ (i := 16) (N := some 23) (v := ?_) (a' := ?_) #[true, false, false, true, true, false, false, false, false, true, true, false, false, false, false, true, true, false, false, false, false, false, false, false, false, false, false, false, false, false, false, false, false, false, false, false, false, false] rfl rfl (any_of HT_.out (by kernel_rfl)) (fun _ _ _ h => h) (Or.inl ⟨by rfl, ?_⟩) ?_ ?_
                            rotate_left
                            · intro w'
                              go_simp
                              with_reducible rfl
                            rotate_left
                            · simp only [Act.put, List.setIfInBounds_toArray, List.set_cons_zero, List.set_cons_succ, i64_w, i32_w]
                              rfl
                            refine pure_ (i := 21) (N := some 28) (v := ?_) (a' := ?_) #[true, false, false, true, true, false, false, false, false, true, true, false, false, false, false, true, true, false, false, false, false, true, false, false, false, false, false, false, false, false, false, false, false, false, false, false, false, false] rfl rfl (any_of HT_.out (by kernel_rfl)) (fun _ _ _ h => h) (Or.inl ⟨by rfl, ?_⟩) ?_ ?_
                            rotate_left
                            · intro w'
                              go_simp
                              with_reducible rfl
                            rotate_left
                            · simp only [Act.put, List.setIfInBounds_toArray, List.set_cons_zero, List.set_cons_succ, i64_w, i32_w]
                              rfl
                            refine pure_ (i := 22) (N := some 29) (v := ?_) (a' := ?_) #[true, false, false, true, true, false, false, false, false, true, true, false, false, false, false, true, true, false, false, false, false, true, true, false, false, false, false, false, false, false, false, false, false, false, false, false, false, false] rfl rfl (any_of HT_.out (by kernel_rfl)) (fun _ _ _ h => h) (Or.inl ⟨by rfl, ?_⟩) ?_ ?_
                            rotate_left
                            · intro w'
                              go_simp
                              with_reducible rfl
                            rotate_left
                            · simp only [Act.put, List.setIfInBounds_toArray, List.set_cons_zero, List.set_cons_succ, i64_w, i32_w]
                              rfl
                            refine pure_ (i := 27) (N := some 34) (v := ?_) (a' := ?_) #[true, false, false, true, true, false, false, false, false, true, true, false, false, false, false, true, true, false, false, false, false, true, true, false, false, false, false, true, false, false, false, false, false, false, false, false, false, false] rfl rfl (any_of HT_.out (by kernel_rfl)) (fun _ _ _ h => h) (Or.inl ⟨by rfl, ?_⟩) ?_ ?_
                            rotate_left
                            · intro w'
                              go_simp
                              with_reducible rfl
                            rotate_left
                            · simp only [Act.put, List.setIfInBounds_toArray, List.set_cons_zero, List.set_cons_succ, i64_w, i32_w]
                              rfl
                            refine pure_ (i := 32) (N := some 39) (v := ?_) (a' := ?_) #[true, false, false, true, true, false, false, false, false, true, true, false, false, false, false, true, true, false, false, false, false, true, true, false, false, false, false, true, false, false, false, false, true, false, false, false, false, false] rfl rfl (any_of HT_.out (by kernel_rfl)) (fun _ _ _ h => h) (Or.inl ⟨by rfl, ?_⟩) ?_ ?_
                            rotate_left
                            · intro w'
                              go_simp
                              with_reducible rfl
                            rotate_left
                            · simp only [Act.put, List.setIfInBounds_toArray, List.set_cons_zero, List.set_cons_succ, i64_w, i32_w]
                              rfl
                            refine take_ (i := 1) (N := some 8) (v := ?_) (a' := ?_) #[true, true, false, true, true, false, false, false, false, true, true, false, false, false, false, true, true, false, false, false, false, true, true, false, false, false, false, true, false, false, false, false, true, false, false, false, false, false] rfl rfl (take_ofW HT_.out HW_.out (by kernel_rfl)) (fun _ _ _ h => h) (Or.inl ⟨by rfl, ?_⟩) hHeld ?_ ?_
                            rotate_left
                            · rintro w' ⟨s0, s1, s2, s3, s4, s5, s6⟩
                              go_simp
                              with_reducible rfl
                            rotate_left
                            · simp only [Act.put, List.setIfInBounds_toArray, List.set_cons_zero, List.set_cons_succ, i64_w, i32_w]
                              rfl
                            refine pure_ (i := 2) (N := some 9) (v := ?_) (a' := ?_) #[true, true, true, true, true, false, false, false, false, true, true, false, false, false, false, true, true, false, false, false, false, true, true, false, false, false, false, true, false, false, false, false, true, false, false, false, false, false] rfl rfl (any_of HT_.out (by kernel_rfl)) (fun _ _ _ h => h) (Or.inl ⟨by rfl, ?_⟩) ?_ ?_
                            rotate_left
                            · intro w'
                              go_simp
                              with_reducible rfl
                            rotate_left
                            · simp only [Act.put, List.setIfInBounds_toArray, List.set_cons_zero, List.set_cons_succ, i64_w, i32_w]
                              rfl
                            refine take_ (i := 5) (N := some 12) (v := ?_) (a' := ?_) #[true, true, true, true, true, true, false, false, false, true, true, false, false, false, false, true, true, false, false, false, false, true, true, false, false, false, false, true, false, false, false, false, true, false, false, false, false, false] rfl rfl (take_ofW HT_.out HW_.out (by kernel_rfl)) (fun _ _ _ h => h) (Or.inl ⟨by rfl, ?_⟩) hHeld ?_ ?_
                            rotate_left
                            · rintro w' ⟨s0, s1, s2, s3, s4, s5, s6⟩
                              go_simp
                              with_reducible rfl
                            rotate_left
                            · simp only [Act.put, List.setIfInBounds_toArray, List.set_cons_zero, List.set_cons_succ, i64_w, i32_w]
                              rfl
                            refine take_ (i := 11) (N := some 18) (v := ?_) (a' := ?_) #[true, true, true, true, true, true, false, false, false, true, true, true, false, false, false, true, true, false, false, false, false, true, true, false, false, false, false, true, false, false, false, false, true, false, false, false, false, false] rfl rfl (take_ofW HT_.out HW_.out (by kernel_rfl)) (fun _ _ _ h => h) (Or.inl ⟨by rfl, ?_⟩) hHeld ?_ ?_
                            rotate_left
                            · rintro w' ⟨s0, s1, s2, s3, s4, s5, s6⟩
                              go_simp
                              with_reducible rfl
                            rotate_left
                            · simp only [Act.put, List.setIfInBounds_toArray, List.set_cons_zero, List.set_cons_succ, i64_w, i32_w]
                              rfl
                            refine take_ (i := 17) (N := some 24) (v := ?_) (a' := ?_) #[true, true, true, true, true, true, false, false, false, true, true, true, false, false, false, true, true, true, false, false, false, true, true, false, false, false, false, true, false, false, false, false, true, false, false, false, false, false] rfl rfl (take_ofW HT_.out HW_.out (by kernel_rfl)) (fun _ _ _ h => h) (Or.inl ⟨by rfl, ?_⟩) hHeld ?_ ?_
                            rotate_left
                            · rintro w' ⟨s0, s1, s2, s3, s4, s5, s6⟩
                              go_simp
                              with_reducible rfl
                            rotate_left
                            · simp only [Act.put, List.setIfInBounds_toArray, List.set_cons_zero, List.set_cons_succ, i64_w, i32_w]
                              rfl
                            refine take_ (i := 23) (N := some 30) (v := ?_) (a' := ?_) #[true, true, true, true, true, true, false, false, false, true, true, true, false, false, false, true, true, true, false, false, false, true, true, true, false, false, false, true, false, false, false, false, true, false, false, false, false, false] rfl rfl (take_ofW HT_.out HW_.out (by kernel_rfl)) (fun _ _ _ h => h) (Or.inl ⟨by rfl, ?_⟩) hHeld ?_ ?_
                            rotate_left
                            · rintro w' ⟨s0, s1, s2, s3, s4, s5, s6⟩
                              go_simp
                              with_reducible rfl
                            rotate_left
                            · simp only [Act.put, List.setIfInBounds_toArray, List.set_cons_zero, List.set_cons_succ, i64_w, i32_w]
                              rfl
                            refine take_ (i := 28) (N := some 35) (v := ?_) (a' := ?_) #[true, true, true, true, true, true, false, false, false, true, true, true, false, false, false, true, true, true, false, false, false, true, true, true, false, false, false, true, true, false, false, false, true, false, false, false, false, false] rfl rfl (take_ofW HT_.out HW_.out (by kernel_rfl)) (fun _ _ _ h => h) (Or.inl ⟨by rfl, ?_⟩) hHeld ?_ ?_
                            rotate_left
                            · rintro w' ⟨s0, s1, s2, s3, s4, s5, s6⟩
                              go_simp
                              with_reducible rfl
                            rotate_left
                            · simp only [Act.put, List.setIfInBounds_toArray, List.set_cons_zero, List.set_cons_succ, i64_w, i32_w]
                              rfl
                            refine take_ (i := 33) (N := some 40) (v := ?_) (a' := ?_) #[true, true, true, true, true, true, false, false, false, true, true, true, false, false, false, true, true, true, false, false, false, true, true, true, false, false, false, true, true, false, false, false, true, true, false, false, false, false] rfl rfl (take_ofW HT_.out HW_.out (by kernel_rfl)) (fun _ _ _ h => h) (Or.inl ⟨by rfl, ?_⟩) hHeld ?_ ?_
                            rotate_left
                            · rintro w' ⟨s0, s1, s2, s3, s4, s5, s6⟩
                              go_simp
                              with_reducible rfl
                            rotate_left
                            · simp only [Act.put, List.setIfInBounds_toArray, List.set_cons_zero, List.set_cons_succ, i64_w, i32_w]
                              rfl
                            refine one_ (i := 6) (N := some 13) #[true, true, true, true, true, true, true, false, false, true, true, true, false, false, false, true, true, true, false, false, false, true, true, true, false, false, false, true, true, false, false, false, true, true, false, false, false, false] rfl rfl (one_of HT_.out (by kernel_rfl)) (by decide) (fun K hK => ?_)
                            refine goes_ Tryz.func18 (by kernel_rfl) rfl #[.int .i64 a0_3] (by rfl) rfl rfl (by (try simp only [List.map_toArray, List.map_cons, List.map_nil]); first | done | rfl | (simp only [List.length_drop, List.length_take]; rfl)) ?_
                            with_reducible refine (hamperref26_Digits.calls k a0_3 t118 _ A5.out).mono ?_
                            rintro e w26 ⟨rfl, hb⟩
                            refine ⟨_, rfl, ?_⟩
                            have n0_ := Aside0.mk (blk_below (g := gb116) (o := .cells #[.string a0_0, .int .i64 a0_1, .int .i64 a0_2, .int .i64 a0_3, .int .i64 a0_4, .int .i64 a0_5, .int .i64 a0_6] 25 (0, 0)) (by (with_reducible repeat (first | refine blk_drewN ?_ _ | refine blk_drew ?_ | refine blk_alloc ?_ _)); exact BK116.out) hb)
                            have n1_ := Aside0.mk (below_step (by repeat (first | (with_reducible first | exact HB.out | apply below_alloc | apply pw_below_drewN | apply below_drew1 | refine below_set ?_ GE116.out) | exact HB.out)) hb)
                            clear BK116
                            clear HB
                            have BK116 := n0_
                            have HB := n1_
                            clear n0_ n1_
                            (try clear hb)
                            (try clear hb2)
                            (try clear hk)
                            (try clear hi)
                            refine hK.out _ _ ⟨(blk_cell BK116.out 0).trans rfl, (blk_cell BK116.out 1).trans rfl, (blk_cell BK116.out 2).trans rfl, (blk_cell BK116.out 3).trans rfl, (blk_cell BK116.out 4).trans rfl, (blk_cell BK116.out 5).trans rfl, (blk_cell BK116.out 6).trans rfl⟩ (fun hHeld => ?_)
                            clear hK K
                            refine norm_ (a' := ?_) ?_ ?_
                            rotate_left
                            · show Act.put _ (some 13) _ = _
                              simp only [Act.put, List.setIfInBounds_toArray, List.set_cons_zero, List.set_cons_succ, i64_w, i32_w]
                              rfl
                            refine pure_ (i := 7) (N := some 14) (v := ?_) (a' := ?_) #[true, true, true, true, true, true, true, true, false, true, true, true, false, false, false, true, true, true, false, false, false, true, true, true, false, false, false, true, true, false, false, false, true, true, false, false, false, false] rfl rfl (any_of HT_.out (by kernel_rfl)) (fun _ _ _ h => h) (Or.inl ⟨by rfl, ?_⟩) ?_ ?_
                            rotate_left
                            · intro w'
                              go_simp
                              with_reducible rfl
                            rotate_left
                            · simp only [Act.put, List.setIfInBounds_toArray, List.set_cons_zero, List.set_cons_succ, i64_w, i32_w]
                              rfl
                            refine pure_ (i := 8) (N := some 15) (v := ?_) (a' := ?_) #[true, true, true, true, true, true, true, true, true, true, true, true, false, false, false, true, true, true, false, false, false, true, true, true, false, false, false, true, true, false, false, false, true, true, false, false, false, false] rfl rfl (any_of HT_.out (by kernel_rfl)) (fun _ _ _ h => h) (Or.inl ⟨by rfl, ?_⟩) ?_ ?_
                            rotate_left
                            · intro w'
                              go_simp
                              with_reducible rfl
                            rotate_left
                            · simp only [Act.put, List.setIfInBounds_toArray, List.set_cons_zero, List.set_cons_succ, i64_w, i32_w]
                              rfl
                            refine one_ (i := 12) (N := some 19) #[true, true, true, true, true, true, true, true, true, true, true, true, true, false, false, true, true, true, false, false, false, true, true, true, false, false, false, true, true, false, false, false, true, true, false, false, false, false] rfl rfl (one_of HT_.out (by kernel_rfl)) (by decide) (fun K hK => ?_)
                            refine goes_ Tryz.func18 (by kernel_rfl) rfl #[.int .i64 a0_4] (by rfl) rfl rfl (by (try simp only [List.map_toArray, List.map_cons, List.map_nil]); first | done | rfl | (simp only [List.length_drop, List.length_take]; rfl)) ?_
                            with_reducible refine (hamperref26_Digits.calls k a0_4 t119 _ A8.out).mono ?_
                            rintro e w27 ⟨rfl, hb⟩
                            refine ⟨_, rfl, ?_⟩
                            have n0_ := Aside0.mk (blk_below (g := gb116) (o := .cells #[.string a0_0, .int .i64 a0_1, .int .i64 a0_2, .int .i64 a0_3, .int .i64 a0_4, .int .i64 a0_5, .int .i64 a0_6] 25 (0, 0)) (by (with_reducible repeat (first | refine blk_drewN ?_ _ | refine blk_drew ?_ | refine blk_alloc ?_ _)); exact BK116.out) hb)
                            have n1_ := Aside0.mk (below_step (by repeat (first | (with_reducible first | exact HB.out | apply below_alloc | apply pw_below_drewN | apply below_drew1 | refine below_set ?_ GE116.out) | exact HB.out)) hb)
                            clear BK116
                            clear HB
                            have BK116 := n0_
                            have HB := n1_
                            clear n0_ n1_
                            (try clear hb)
                            (try clear hb2)
                            (try clear hk)
                            (try clear hi)
                            refine hK.out _ _ ⟨(blk_cell BK116.out 0).trans rfl, (blk_cell BK116.out 1).trans rfl, (blk_cell BK116.out 2).trans rfl, (blk_cell BK116.out 3).trans rfl, (blk_cell BK116.out 4).trans rfl, (blk_cell BK116.out 5).trans rfl, (blk_cell BK116.out 6).trans rfl⟩ (fun hHeld => ?_)
                            clear hK K
                            refine norm_ (a' := ?_) ?_ ?_
                            rotate_left
                            · show Act.put _ (some 19) _ = _
                              simp only [Act.put, List.setIfInBounds_toArray, List.set_cons_zero, List.set_cons_succ, i64_w, i32_w]
                              rfl
                            refine pure_ (i := 13) (N := some 20) (v := ?_) (a' := ?_) #[true, true, true, true, true, true, true, true, true, true, true, true, true, true, false, true, true, true, false, false, false, true, true, true, false, false, false, true, true, false, false, false, true, true, false, false, false, false] rfl rfl (any_of HT_.out (by kernel_rfl)) (fun _ _ _ h => h) (Or.inl ⟨by rfl, ?_⟩) ?_ ?_
                            rotate_left
                            · intro w'
                              go_simp
                              with_reducible rfl
                            rotate_left
                            · simp only [Act.put, List.setIfInBounds_toArray, List.set_cons_zero, List.set_cons_succ, i64_w, i32_w]
                              rfl
                            refine pure_ (i := 14) (N := some 21) (v := ?_) (a' := ?_) #[true, true, true, true, true, true, true, true, true, true, true, true, true, true, true, true, true, true, false, false, false, true, true, true, false, false, false, true, true, false, false, false, true, true, false, false, false, false] rfl rfl (any_of HT_.out (by kernel_rfl)) (fun _ _ _ h => h) (Or.inl ⟨by rfl, ?_⟩) ?_ ?_
                            rotate_left
                            · intro w'
                              go_simp
                              with_reducible rfl
                            rotate_left
                            · simp only [Act.put, List.setIfInBounds_toArray, List.set_cons_zero, List.set_cons_succ, i64_w, i32_w]
                              rfl
                            refine one_ (i := 18) (N := some 25) #[true, true, true, true, true, true, true, true, true, true, true, true, true, true, true, true, true, true, true, false, false, true, true, true, false, false, false, true, true, false, false, false, true, true, false, false, false, false] rfl rfl (one_of HT_.out (by kernel_rfl)) (by decide) (fun K hK => ?_)
                            refine goes_ Tryz.func18 (by kernel_rfl) rfl #[.int .i64 a0_5] (by rfl) rfl rfl (by (try simp only [List.map_toArray, List.map_cons, List.map_nil]); first | done | rfl | (simp only [List.length_drop, List.length_take]; rfl)) ?_
                            with_reducible refine (hamperref26_Digits.calls k a0_5 t120 _ A11.out).mono ?_
                            rintro e w28 ⟨rfl, hb⟩
                            refine ⟨_, rfl, ?_⟩
                            have n0_ := Aside0.mk (blk_below (g := gb116) (o := .cells #[.string a0_0, .int .i64 a0_1, .int .i64 a0_2, .int .i64 a0_3, .int .i64 a0_4, .int .i64 a0_5, .int .i64 a0_6] 25 (0, 0)) (by (with_reducible repeat (first | refine blk_drewN ?_ _ | refine blk_drew ?_ | refine blk_alloc ?_ _)); exact BK116.out) hb)
                            have n1_ := Aside0.mk (below_step (by repeat (first | (with_reducible first | exact HB.out | apply below_alloc | apply pw_below_drewN | apply below_drew1 | refine below_set ?_ GE116.out) | exact HB.out)) hb)
                            clear BK116
                            clear HB
                            have BK116 := n0_
                            have HB := n1_
                            clear n0_ n1_
                            (try clear hb)
                            (try clear hb2)
                            (try clear hk)
                            (try clear hi)
                            refine hK.out _ _ ⟨(blk_cell BK116.out 0).trans rfl, (blk_cell BK116.out 1).trans rfl, (blk_cell BK116.out 2).trans rfl, (blk_cell BK116.out 3).trans rfl, (blk_cell BK116.out 4).trans rfl, (blk_cell BK116.out 5).trans rfl, (blk_cell BK116.out 6).trans rfl⟩ (fun hHeld => ?_)
                            clear hK K
                            refine norm_ (a' := ?_) ?_ ?_
                            rotate_left
                            · show Act.put _ (some 25) _ = _
                              simp only [Act.put, List.setIfInBounds_toArray, List.set_cons_zero, List.set_cons_succ, i64_w, i32_w]
                              rfl
                            refine pure_ (i := 19) (N := some 26) (v := ?_) (a' := ?_) #[true, true, true, true, true, true, true, true, true, true, true, true, true, true, true, true, true, true, true, true, false, true, true, true, false, false, false, true, true, false, false, false, true, true, false, false, false, false] rfl rfl (any_of HT_.out (by kernel_rfl)) (fun _ _ _ h => h) (Or.inl ⟨by rfl, ?_⟩) ?_ ?_
                            rotate_left
                            · intro w'
                              go_simp
                              with_reducible rfl
                            rotate_left
                            · simp only [Act.put, List.setIfInBounds_toArray, List.set_cons_zero, List.set_cons_succ, i64_w, i32_w]
                              rfl
                            refine pure_ (i := 20) (N := some 27) (v := ?_) (a' := ?_) #[true, true, true, true, true, true, true, true, true, true, true, true, true, true, true, true, true, true, true, true, true, true, true, true, false, false, false, true, true, false, false, false, true, true, false, false, false, false] rfl rfl (any_of HT_.out (by kernel_rfl)) (fun _ _ _ h => h) (Or.inl ⟨by rfl, ?_⟩) ?_ ?_
                            rotate_left
                            · intro w'
                              go_simp
                              with_reducible rfl
                            rotate_left
                            · simp only [Act.put, List.setIfInBounds_toArray, List.set_cons_zero, List.set_cons_succ, i64_w, i32_w]
                              rfl
                            refine one_ (i := 24) (N := some 31) #[true, true, true, true, true, true, true, true, true, true, true, true, true, true, true, true, true, true, true, true, true, true, true, true, true, false, false, true, true, false, false, false, true, true, false, false, false, false] rfl rfl (one_of HT_.out (by kernel_rfl)) (by decide) (fun K hK => ?_)
                            refine goes_ Tryz.func18 (by kernel_rfl) rfl #[.int .i64 a0_6] (by rfl) rfl rfl (by (try simp only [List.map_toArray, List.map_cons, List.map_nil]); first | done | rfl | (simp only [List.length_drop, List.length_take]; rfl)) ?_
                            with_reducible refine (hamperref26_Digits.calls k a0_6 t121 _ A14.out).mono ?_
                            rintro e w29 ⟨rfl, hb⟩
                            refine ⟨_, rfl, ?_⟩
                            have n0_ := Aside0.mk (blk_below (g := gb116) (o := .cells #[.string a0_0, .int .i64 a0_1, .int .i64 a0_2, .int .i64 a0_3, .int .i64 a0_4, .int .i64 a0_5, .int .i64 a0_6] 25 (0, 0)) (by (with_reducible repeat (first | refine blk_drewN ?_ _ | refine blk_drew ?_ | refine blk_alloc ?_ _)); exact BK116.out) hb)
                            have n1_ := Aside0.mk (below_step (by repeat (first | (with_reducible first | exact HB.out | apply below_alloc | apply pw_below_drewN | apply below_drew1 | refine below_set ?_ GE116.out) | exact HB.out)) hb)
                            clear BK116
                            clear HB
                            have BK116 := n0_
                            have HB := n1_
                            clear n0_ n1_
                            (try clear hb)
                            (try clear hb2)
                            (try clear hk)
                            (try clear hi)
                            refine hK.out _ _ ⟨(blk_cell BK116.out 0).trans rfl, (blk_cell BK116.out 1).trans rfl, (blk_cell BK116.out 2).trans rfl, (blk_cell BK116.out 3).trans rfl, (blk_cell BK116.out 4).trans rfl, (blk_cell BK116.out 5).trans rfl, (blk_cell BK116.out 6).trans rfl⟩ (fun hHeld => ?_)
                            clear hK K
                            refine norm_ (a' := ?_) ?_ ?_
                            rotate_left
                            · show Act.put _ (some 31) _ = _
                              simp only [Act.put, List.setIfInBounds_toArray, List.set_cons_zero, List.set_cons_succ, i64_w, i32_w]
                              rfl
                            refine pure_ (i := 25) (N := some 32) (v := ?_) (a' := ?_) #[true, true, true, true, true, true, true, true, true, true, true, true, true, true, true, true, true, true, true, true, true, true, true, true, true, true, false, true, true, false, false, false, true, true, false, false, false, false] rfl rfl (any_of HT_.out (by kernel_rfl)) (fun _ _ _ h => h) (Or.inl ⟨by rfl, ?_⟩) ?_ ?_
                            rotate_left
                            · intro w'
                              go_simp
                              with_reducible rfl
                            rotate_left
                            · simp only [Act.put, List.setIfInBounds_toArray, List.set_cons_zero, List.set_cons_succ, i64_w, i32_w]
                              rfl
                            refine pure_ (i := 26) (N := some 33) (v := ?_) (a' := ?_) #[true, true, true, true, true, true, true, true, true, true, true, true, true, true, true, true, true, true, true, true, true, true, true, true, true, true, true, true, true, false, false, false, true, true, false, false, false, false] rfl rfl (any_of HT_.out (by kernel_rfl)) (fun _ _ _ h => h) (Or.inl ⟨by rfl, ?_⟩) ?_ ?_
                            rotate_left
                            · intro w'
                              go_simp
                              with_reducible rfl
                            rotate_left
                            · simp only [Act.put, List.setIfInBounds_toArray, List.set_cons_zero, List.set_cons_succ, i64_w, i32_w]
                              rfl
                            refine one_ (i := 29) (N := some 36) #[true, true, true, true, true, true, true, true, true, true, true, true, true, true, true, true, true, true, true, true, true, true, true, true, true, true, true, true, true, true, false, false, true, true, false, false, false, false] rfl rfl (one_of HT_.out (by kernel_rfl)) (by decide) (fun K hK => ?_)
                            refine goes_ Tryz.func18 (by kernel_rfl) rfl #[.int .i64 a0_2] (by rfl) rfl rfl (by (try simp only [List.map_toArray, List.map_cons, List.map_nil]); first | done | rfl | (simp only [List.length_drop, List.length_take]; rfl)) ?_
                            with_reducible refine (hamperref26_Digits.calls k a0_2 t122 _ A17.out).mono ?_
                            rintro e w30 ⟨rfl, hb⟩
                            refine ⟨_, rfl, ?_⟩
                            have n0_ := Aside0.mk (blk_below (g := gb116) (o := .cells #[.string a0_0, .int .i64 a0_1, .int .i64 a0_2, .int .i64 a0_3, .int .i64 a0_4, .int .i64 a0_5, .int .i64 a0_6] 25 (0, 0)) (by (with_reducible repeat (first | refine blk_drewN ?_ _ | refine blk_drew ?_ | refine blk_alloc ?_ _)); exact BK116.out) hb)
                            have n1_ := Aside0.mk (below_step (by repeat (first | (with_reducible first | exact HB.out | apply below_alloc | apply pw_below_drewN | apply below_drew1 | refine below_set ?_ GE116.out) | exact HB.out)) hb)
                            clear BK116
                            clear HB
                            have BK116 := n0_
                            have HB := n1_
                            clear n0_ n1_
                            (try clear hb)
                            (try clear hb2)
                            (try clear hk)
                            (try clear hi)
                            refine hK.out _ _ ⟨(blk_cell BK116.out 0).trans rfl, (blk_cell BK116.out 1).trans rfl, (blk_cell BK116.out 2).trans rfl, (blk_cell BK116.out 3).trans rfl, (blk_cell BK116.out 4).trans rfl, (blk_cell BK116.out 5).trans rfl, (blk_cell BK116.out 6).trans rfl⟩ (fun hHeld => ?_)
                            clear hK K
                            refine norm_ (a' := ?_) ?_ ?_
                            rotate_left
                            · show Act.put _ (some 36) _ = _
                              simp only [Act.put, List.setIfInBounds_toArray, List.set_cons_zero, List.set_cons_succ, i64_w, i32_w]
                              rfl
                            refine pure_ (i := 30) (N := some 37) (v := ?_) (a' := ?_) #[true, true, true, true, true, true, true, true, true, true, true, true, true, true, true, true, true, true, true, true, true, true, true, true, true, true, true, true, true, true, true, false, true, true, false, false, false, false] rfl rfl (any_of HT_.out (by kernel_rfl)) (fun _ _ _ h => h) (Or.inl ⟨by rfl, ?_⟩) ?_ ?_
                            rotate_left
                            · intro w'
                              go_simp
                              with_reducible rfl
                            rotate_left
                            · simp only [Act.put, List.setIfInBounds_toArray, List.set_cons_zero, List.set_cons_succ, i64_w, i32_w]
                              rfl
                            refine pure_ (i := 31) (N := some 38) (v := ?_) (a' := ?_) #[true, true, true, true, true, true, true, true, true, true, true, true, true, true, true, true, true, true, true, true, true, true, true, true, true, true, true, true, true, true, true, true, true, true, false, false, false, false] rfl rfl (any_of HT_.out (by kernel_rfl)) (fun _ _ _ h => h) (Or.inl ⟨by rfl, ?_⟩) ?_ ?_
                            rotate_left
                            · intro w'
                              go_simp
                              with_reducible rfl
                            rotate_left
                            · simp only [Act.put, List.setIfInBounds_toArray, List.set_cons_zero, List.set_cons_succ, i64_w, i32_w]
                              rfl
                            refine one_ (i := 34) (N := some 41) #[true, true, true, true, true, true, true, true, true, true, true, true, true, true, true, true, true, true, true, true, true, true, true, true, true, true, true, true, true, true, true, true, true, true, true, false, false, false] rfl rfl (one_of HT_.out (by kernel_rfl)) (by decide) (fun K hK => ?_)
                            refine goes_ Tryz.func18 (by kernel_rfl) rfl #[.int .i64 a0_1] (by rfl) rfl rfl (by (try simp only [List.map_toArray, List.map_cons, List.map_nil]); first | done | rfl | (simp only [List.length_drop, List.length_take]; rfl)) ?_
                            with_reducible refine (hamperref26_Digits.calls k a0_1 t123 _ A20.out).mono ?_
                            rintro e w31 ⟨rfl, hb⟩
                            refine ⟨_, rfl, ?_⟩
                            have n0_ := Aside0.mk (blk_below (g := gb116) (o := .cells #[.string a0_0, .int .i64 a0_1, .int .i64 a0_2, .int .i64 a0_3, .int .i64 a0_4, .int .i64 a0_5, .int .i64 a0_6] 25 (0, 0)) (by (with_reducible repeat (first | refine blk_drewN ?_ _ | refine blk_drew ?_ | refine blk_alloc ?_ _)); exact BK116.out) hb)
                            have n1_ := Aside0.mk (below_step (by repeat (first | (with_reducible first | exact HB.out | apply below_alloc | apply pw_below_drewN | apply below_drew1 | refine below_set ?_ GE116.out) | exact HB.out)) hb)
                            clear BK116
                            clear HB
                            have BK116 := n0_
                            have HB := n1_
                            clear n0_ n1_
                            (try clear hb)
                            (try clear hb2)
                            (try clear hk)
                            (try clear hi)
                            refine hK.out _ _ ⟨(blk_cell BK116.out 0).trans rfl, (blk_cell BK116.out 1).trans rfl, (blk_cell BK116.out 2).trans rfl, (blk_cell BK116.out 3).trans rfl, (blk_cell BK116.out 4).trans rfl, (blk_cell BK116.out 5).trans rfl, (blk_cell BK116.out 6).trans rfl⟩ (fun hHeld => ?_)
                            clear hK K
                            refine norm_ (a' := ?_) ?_ ?_
                            rotate_left
                            · show Act.put _ (some 41) _ = _
                              simp only [Act.put, List.setIfInBounds_toArray, List.set_cons_zero, List.set_cons_succ, i64_w, i32_w]
                              rfl
                            refine pure_ (i := 35) (N := some 42) (v := ?_) (a' := ?_) #[true, true, true, true, true, true, true, true, true, true, true, true, true, true, true, true, true, true, true, true, true, true, true, true, true, true, true, true, true, true, true, true, true, true, true, true, false, false] rfl rfl (any_of HT_.out (by kernel_rfl)) (fun _ _ _ h => h) (Or.inl ⟨by rfl, ?_⟩) ?_ ?_
                            rotate_left
                            · intro w'
                              go_simp
                              with_reducible rfl
                            rotate_left
                            · simp only [Act.put, List.setIfInBounds_toArray, List.set_cons_zero, List.set_cons_succ, i64_w, i32_w]
                              rfl
                            refine pure_ (i := 36) (N := some 2) (v := ?_) (a' := ?_) #[true, true, true, true, true, true, true, true, true, true, true, true, true, true, true, true, true, true, true, true, true, true, true, true, true, true, true, true, true, true, true, true, true, true, true, true, true, false] rfl rfl (any_of HT_.out (by kernel_rfl)) (fun _ _ _ h => h) (Or.inl ⟨by rfl, ?_⟩) ?_ ?_
                            rotate_left
                            · intro w'
                              go_simp
                              with_reducible rfl
                            rotate_left
                            · simp only [Act.put, List.setIfInBounds_toArray, List.set_cons_zero, List.set_cons_succ, i64_w, i32_w]
                              rfl
                            refine pure_ (i := 37) (N := some 3) (v := ?_) (a' := ?_) #[true, true, true, true, true, true, true, true, true, true, true, true, true, true, true, true, true, true, true, true, true, true, true, true, true, true, true, true, true, true, true, true, true, true, true, true, true, true] rfl rfl (any_of HT_.out (by kernel_rfl)) (fun _ _ _ h => h) (Or.inl ⟨by rfl, ?_⟩) ?_ ?_
                            rotate_left
                            · intro w'
                              go_simp
                              with_reducible rfl
                            rotate_left
                            · simp only [Act.put, List.setIfInBounds_toArray, List.set_cons_zero, List.set_cons_succ, i64_w, i32_w]
                              rfl
                            refine done_ (done_of HT_.out (by kernel_rfl)) ?_
                            try go_wp2
                            go_ret2
                            exact ⟨by first | rfl | (simp [errW_none, errW_some] <;> rfl) | (simp [*, errW_none, errW_some] <;> rfl), by repeat (first | (with_reducible first | exact HB.out | apply below_alloc | apply pw_below_drewN | apply below_drew1 | refine below_set ?_ GE116.out) | exact HB.out)⟩
                          · rw [if_neg c21] at H
                            exact absurd H (by simp)
                        · rw [if_neg c19] at H
                          exact absurd H (by simp)
                      · rw [if_neg c18] at H
                        exact absurd H (by simp)
                    · rw [if_neg c16] at H
                      exact absurd H (by simp)
                  · rw [if_neg c15] at H
                    exact absurd H (by simp)
                · rw [if_neg c13] at H
                  exact absurd H (by simp)
              · rw [if_neg c12] at H
                exact absurd H (by simp)
            · rw [if_neg c10] at H
              exact absurd H (by simp)
          · rw [if_neg c9] at H
            exact absurd H (by simp)
        · rw [if_neg c7] at H
          exact absurd H (by simp)
      · rw [if_neg c6] at H
        exact absurd H (by simp)
    · rw [if_neg c4] at H
      exact absurd H (by simp)
  · replace c3 := Bool.eq_false_iff.mpr c3
    subst c3
    have H1 : (some ((⟨#[]⟩ : ByteArray), 1)) = some (r1, r2) := by rw [if_neg (show ¬ (false = true) by decide)] at H; exact H
    clear H
    have H := H1
    clear H1
    simp only [Option.some.injEq, Prod.mk.injEq] at H
    obtain ⟨rfl, rfl⟩ := H
    go_enter Tryz.func7, Tryz.ntmps7
    go_wp2_with (first | ((with_reducible refine gate_dst (N := 1) rfl ?_); refine box_event ?hg (N := 1) ?hd (cs := #[.string a0_0, .int .i64 a0_1, .int .i64 a0_2, .int .i64 a0_3, .int .i64 a0_4, .int .i64 a0_5, .int .i64 a0_6]) (t := 25) ?hr ?_; (case hd => rfl); (case hg => rfl); (case hr => first | (go_simp; done) | (go_simp; rfl)); intro gb116 hg w32 hbox hb; have n0_ := Aside0.mk (below_step (by repeat (first | (with_reducible first | exact HB.out | apply below_alloc | apply pw_below_drewN | apply below_drew1) | exact HB.out)) hb); have n1_ := Aside0.mk (hbox); have n2_ := Aside0.mk ((by rw [hg]; exact (below_size (by repeat (first | (with_reducible first | exact HB.out | apply below_alloc | apply pw_below_drewN | apply below_drew1) | exact HB.out))) : w.heap.size ≤ gb116)); have n3_ := Aside0.mk ((by rw [hg]; exact (below_size (by repeat (first | (with_reducible first | exact HB.out | apply below_alloc | apply pw_below_drewN | apply below_drew1) | exact HB.out))) : w.heap.size ≤ gb116)); clear HB; have HB := n0_; have BK116 := n1_; have GW116 := n2_; have GE116 := n3_; clear n0_ n1_ n2_ n3_; clear hb hbox hg; have hcz33_0 : w32.cell? ⟨gb116, 0, none⟩ = some (.string a0_0) := (blk_cell BK116.out 0).trans rfl; have hcz33_1 : w32.cell? ⟨gb116, 1, none⟩ = some (.int .i64 a0_1) := (blk_cell BK116.out 1).trans rfl; have hcz33_2 : w32.cell? ⟨gb116, 2, none⟩ = some (.int .i64 a0_2) := (blk_cell BK116.out 2).trans rfl; have hcz33_3 : w32.cell? ⟨gb116, 3, none⟩ = some (.int .i64 a0_3) := (blk_cell BK116.out 3).trans rfl; have hcz33_4 : w32.cell? ⟨gb116, 4, none⟩ = some (.int .i64 a0_4) := (blk_cell BK116.out 4).trans rfl; have hcz33_5 : w32.cell? ⟨gb116, 5, none⟩ = some (.int .i64 a0_5) := (blk_cell BK116.out 5).trans rfl; have hcz33_6 : w32.cell? ⟨gb116, 6, none⟩ = some (.int .i64 a0_6) := (blk_cell BK116.out 6).trans rfl; have hfz33_0 := blk_frozen BK116.out 0; have hfz33_1 := blk_frozen BK116.out 1; have hfz33_2 := blk_frozen BK116.out 2; have hfz33_3 := blk_frozen BK116.out 3; have hfz33_4 := blk_frozen BK116.out 4; have hfz33_5 := blk_frozen BK116.out 5; have hfz33_6 := blk_frozen BK116.out 6) | ((with_reducible refine gate_callee (f := 13) rfl ?_); refine goesL_ (some 5) rfl rfl Tryz.func13 (by kernel_rfl) rfl #[.agg #[.string a0_0, .int .i64 a0_1, .int .i64 a0_2, .int .i64 a0_3, .int .i64 a0_4, .int .i64 a0_5, .int .i64 a0_6]] rfl (by (try simp only [List.map_toArray, List.map_cons, List.map_nil]); first | done | rfl | (simp only [List.length_drop, List.length_take]; rfl)) ?_; (with_reducible refine (hamperref26_Place.calls k a0_0 a0_1 a0_2 a0_3 a0_4 a0_5 a0_6 false _ A2.out).mono ?_); rintro e w34 ⟨rfl, hb⟩; refine ⟨_, rfl, ?_⟩; have n0_ := Aside0.mk (blk_below (g := gb116) (o := .cells #[.string a0_0, .int .i64 a0_1, .int .i64 a0_2, .int .i64 a0_3, .int .i64 a0_4, .int .i64 a0_5, .int .i64 a0_6] 25 (0, 0)) (by (with_reducible repeat (first | refine blk_drewN ?_ _ | refine blk_drew ?_ | refine blk_alloc ?_ _)); exact BK116.out) hb); have n1_ := Aside0.mk (below_step (by repeat (first | (with_reducible first | exact HB.out | apply below_alloc | apply pw_below_drewN | apply below_drew1 | refine below_set ?_ GE116.out) | exact HB.out)) hb); clear BK116; clear HB; have BK116 := n0_; have HB := n1_; clear n0_ n1_; (try clear hb); (try clear hb2); (try clear hk); (try clear hi)))
    go_ret2
    exact ⟨by first | rfl | (simp [errW_none, errW_some] <;> rfl) | (simp [*, errW_none, errW_some] <;> rfl), by repeat (first | (with_reducible first | exact HB.out | apply below_alloc | apply pw_below_drewN | apply below_drew1 | refine below_set ?_ GE116.out) | exact HB.out)⟩

end Go.Proofs.YtnnkenbcdepafaaGreatDoor.B
