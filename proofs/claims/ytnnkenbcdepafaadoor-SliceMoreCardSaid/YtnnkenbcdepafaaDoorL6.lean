/- Walks of functions of the given program, written by a program of this session (hp.py). -/
import Derived.Test.YtnnkenbcdepafaaDoorL0
namespace Go.Proofs.YtnnkenbcdepafaaDoor.L
open Go.RowKit Go.Proofs.YtnnkenbcdepafaaDoor.B Go.Proofs.YtnnkenbcdepafaaDoor.H Go.Proofs.YtnnkenbcdepafaaDoor.A Go.Proofs.YtnnkenbcdepafaaDoorW.PrintWords Go.Proofs.YtnnkenbcdepafaaDoorW.PrintLast Go.Proofs.YtnnkenbcdepafaaDoorW.PrintMore
attribute [local go_sem] max2_int min2_int max_two min_two max_three min_three max_four min_four   -- for this text's walks alone
set_option linter.unusedVariables false
set_option linter.unusedSimpArgs false

/-! ### hamperlaw26_SliceMore: function 8 -/
mutual
noncomputable def hamperlaw26_SliceMore.j0 : Nat → Int → Int → Bool → Int → Int → Int → Int → Option (Bool)
  | 0, _, _, _, _, _, _, _ => none
  | k + 1, x0, x1, x23, x163000, x163001, x163002, x163003 => if x23 = true then ((hamperlaw26_awake.f).bind fun t164 => (some t164)) else ((slice_Count.f k x0 x163000 x163001 x163002 x163003).bind fun bt165 => ((slice_Count.f k (wrap64 (x0 + (wrap64 (Int.tmod (IntKind.u64.wrap (x1)) 100000)))) x163000 x163001 x163002 x163003).bind fun bt167 => (if bt165.2 = 40 then (if bt167.2 = 40 then (if bt165.2 = 0 then (if bt167.2 = 0 then (hamperlaw26_SliceMore.j1 k x0 bt165.1 bt165.2 (decide (bt167.1 < bt165.1)) x163000 x163001 x163002 x163003) else (hamperlaw26_SliceMore.j1 k x0 bt165.1 bt165.2 false x163000 x163001 x163002 x163003)) else (hamperlaw26_SliceMore.j1 k x0 bt165.1 bt165.2 false x163000 x163001 x163002 x163003)) else (hamperlaw26_SliceMore.j1 k x0 bt165.1 bt165.2 true x163000 x163001 x163002 x163003)) else (if bt165.2 = 0 then (if bt167.2 = 0 then (hamperlaw26_SliceMore.j1 k x0 bt165.1 bt165.2 (decide (bt167.1 < bt165.1)) x163000 x163001 x163002 x163003) else (hamperlaw26_SliceMore.j1 k x0 bt165.1 bt165.2 false x163000 x163001 x163002 x163003)) else (hamperlaw26_SliceMore.j1 k x0 bt165.1 bt165.2 false x163000 x163001 x163002 x163003)))))
noncomputable def hamperlaw26_SliceMore.j1 : Nat → Int → Int → Int → Bool → Int → Int → Int → Int → Option (Bool)
  | 0, _, _, _, _, _, _, _, _ => none
  | k + 1, x0, x7, x8, x60, x163000, x163001, x163002, x163003 => if x60 = true then (some false) else ((slice_Count.f k x0 (wrap64 (x163000 + 1)) x163001 (wrap64 (x163002 + 2)) x163003).bind fun bt170 => (if x8 = 0 then (if bt170.2 = 0 then (some (decide (bt170.1 ≤ x7))) else ((slice_Shape.f (wrap64 (x163000 + 1)) x163001 (wrap64 (x163002 + 2)) x163003).bind fun t172 => (if t172 = true then (some false) else (some true)))) else (some true)))
end
noncomputable def hamperlaw26_SliceMore.f (k : Nat) (a0 : Int) (a1 : Int) (a2_0 : Int) (a2_1 : Int) (a2_2 : Int) (a2_3 : Int) : Option (Bool) := if a0 < 0 then (hamperlaw26_SliceMore.j0 k a0 a1 true a2_0 a2_1 a2_2 a2_3) else (if a0 > 1099511627776 then (hamperlaw26_SliceMore.j0 k a0 a1 true a2_0 a2_1 a2_2 a2_3) else ((hamperlaw26_awake.f).bind fun t163 => (hamperlaw26_SliceMore.j0 k a0 a1 (!t163) a2_0 a2_1 a2_2 a2_3)))
theorem hamperlaw26_SliceMore.mono_l : ∀ k, (∀ y0 y1 y2 y3 y4 y5 y6, LeO (hamperlaw26_SliceMore.j0 k y0 y1 y2 y3 y4 y5 y6) (hamperlaw26_SliceMore.j0 (k + 1) y0 y1 y2 y3 y4 y5 y6)) ∧ (∀ y0 y1 y2 y3 y4 y5 y6 y7, LeO (hamperlaw26_SliceMore.j1 k y0 y1 y2 y3 y4 y5 y6 y7) (hamperlaw26_SliceMore.j1 (k + 1) y0 y1 y2 y3 y4 y5 y6 y7))
  | 0 => ⟨fun _ _ _ _ _ _ _ r h => by simp [hamperlaw26_SliceMore.j0] at h, fun _ _ _ _ _ _ _ _ r h => by simp [hamperlaw26_SliceMore.j1] at h⟩
  | k + 1 => by
    obtain ⟨ih0, ih1⟩ := hamperlaw26_SliceMore.mono_l k
    refine ⟨?_, ?_⟩
    · intro y0 y1 y2 y3 y4 y5 y6
      unfold hamperlaw26_SliceMore.j0
      repeat' first
      | (with_reducible exact ih0 _ _ _ _ _ _ _)
      | (with_reducible exact ih1 _ _ _ _ _ _ _ _)
      | (with_reducible exact slice_Count.mono _ _ _ _ _ _)
      | (with_reducible exact LeO.refl _)
      | (with_reducible exact LeO.none _)
      | (with_reducible refine LeO.ite ?_ ?_)
      | (with_reducible refine LeO.bind ?_ (fun _ => ?_))
      | exact ih0 _ _ _ _ _ _ _
      | exact ih1 _ _ _ _ _ _ _ _
      | exact slice_Count.mono _ _ _ _ _ _
      | exact LeO.none _
      | refine LeO.ite ?_ ?_
      | refine LeO.bind ?_ (fun _ => ?_)
    · intro y0 y1 y2 y3 y4 y5 y6 y7
      unfold hamperlaw26_SliceMore.j1
      repeat' first
      | (with_reducible exact ih0 _ _ _ _ _ _ _)
      | (with_reducible exact ih1 _ _ _ _ _ _ _ _)
      | (with_reducible exact slice_Count.mono _ _ _ _ _ _)
      | (with_reducible exact LeO.refl _)
      | (with_reducible exact LeO.none _)
      | (with_reducible refine LeO.ite ?_ ?_)
      | (with_reducible refine LeO.bind ?_ (fun _ => ?_))
      | exact ih0 _ _ _ _ _ _ _
      | exact ih1 _ _ _ _ _ _ _ _
      | exact slice_Count.mono _ _ _ _ _ _
      | exact LeO.none _
      | refine LeO.ite ?_ ?_
      | refine LeO.bind ?_ (fun _ => ?_)
theorem hamperlaw26_SliceMore.mono : ∀ a0 a1 a2 a3 a4 a5 k, LeO (hamperlaw26_SliceMore.f k a0 a1 a2 a3 a4 a5) (hamperlaw26_SliceMore.f (k + 1) a0 a1 a2 a3 a4 a5) := by
  intro a0 a1 a2 a3 a4 a5 k
  obtain ⟨ih0, ih1⟩ := hamperlaw26_SliceMore.mono_l k
  unfold hamperlaw26_SliceMore.f
  repeat' first
      | (with_reducible exact ih0 _ _ _ _ _ _ _)
      | (with_reducible exact ih1 _ _ _ _ _ _ _ _)
      | (with_reducible exact slice_Count.mono _ _ _ _ _ _)
      | (with_reducible exact LeO.refl _)
      | (with_reducible exact LeO.none _)
      | (with_reducible refine LeO.ite ?_ ?_)
      | (with_reducible refine LeO.bind ?_ (fun _ => ?_))
      | exact ih0 _ _ _ _ _ _ _
      | exact ih1 _ _ _ _ _ _ _ _
      | exact slice_Count.mono _ _ _ _ _ _
      | exact LeO.none _
      | refine LeO.ite ?_ ?_
      | refine LeO.bind ?_ (fun _ => ?_)
set_option maxHeartbeats 8000000 in
set_option maxRecDepth 100000 in
theorem hamperlaw26_SliceMore.calls (k : Nat) (a0 : Int) (a1 : Int) (a2_0 : Int) (a2_1 : Int) (a2_2 : Int) (a2_3 : Int) (r : Bool) (w : World) (h : hamperlaw26_SliceMore.f k a0 a1 a2_0 a2_1 a2_2 a2_3 = some r) (hL : LaidW w := by exact LaidW.of ‹Aside0 (LaidW _)› (by repeat (first | (with_reducible first | exact (‹Aside0 (Below _ _ _)›).out | apply below_alloc | apply pw_below_drewN | apply below_drew1 | refine below_set ?_ (Aside0.out (by assumption))) | exact (‹Aside0 (Below _ _ _)›).out))) :
    Calls Tryd.prog 8 #[.int .i64 a0, .int .i64 a1, .agg #[.int .i64 a2_0, .int .i64 a2_1, .int .i64 a2_2, .int .i64 a2_3]] w fun e w' => e = .returned (.bool r) ∧ Below w.heap.size w w' := by
  have HLAID := Aside0.mk hL
  clear hL
  have hu23 := Tryd.underlying23
  have HB := Aside0.mk (Below.refl w.heap.size w)
  have H : (if a0 < 0 then (hamperlaw26_SliceMore.j0 k a0 a1 true a2_0 a2_1 a2_2 a2_3) else (if a0 > 1099511627776 then (hamperlaw26_SliceMore.j0 k a0 a1 true a2_0 a2_1 a2_2 a2_3) else ((hamperlaw26_awake.f).bind fun t163 => (hamperlaw26_SliceMore.j0 k a0 a1 (!t163) a2_0 a2_1 a2_2 a2_3)))) = some r := h
  clear h
  have HC4 := Aside0.mk H
  clear H
  go_enter Tryd.func8, Tryd.ntmps8
  go_upto_region 1 with (first | ((with_reducible refine gate_dst (N := 5) rfl ?_); refine box_event ?hg (N := 5) ?hd (cs := #[.int .i64 a2_0, .int .i64 a2_1, .int .i64 a2_2, .int .i64 a2_3]) (t := 23) ?hr ?_; (case hd => rfl); (case hg => rfl); (case hr => first | (go_simp; done) | (go_simp; rfl)); intro gb162 hg w5 hbox hb; have n0_ := Aside0.mk (below_step (by repeat (first | (with_reducible first | exact HB.out | apply below_alloc | apply pw_below_drewN | apply below_drew1) | exact HB.out)) hb); have n1_ := Aside0.mk (hbox); have n2_ := Aside0.mk ((by rw [hg]; exact (below_size (by repeat (first | (with_reducible first | exact HB.out | apply below_alloc | apply pw_below_drewN | apply below_drew1) | exact HB.out))) : w.heap.size ≤ gb162)); have n3_ := Aside0.mk ((by rw [hg]; exact (below_size (by repeat (first | (with_reducible first | exact HB.out | apply below_alloc | apply pw_below_drewN | apply below_drew1) | exact HB.out))) : w.heap.size ≤ gb162)); clear HB; have HB := n0_; have BK162 := n1_; have GW162 := n2_; have GE162 := n3_; clear n0_ n1_ n2_ n3_; clear hb hbox hg))
  (try simp only [Act.put, List.setIfInBounds_toArray, List.set_cons_zero, List.set_cons_succ])
  go_cut [23] (fun v23 wc => ∃ (kq : Nat) (x23_3 : Bool), v23 = .bool x23_3 ∧ Aside0 (hamperlaw26_SliceMore.j0 kq a0 a1 x23_3 a2_0 a2_1 a2_2 a2_3 = some r) ∧ Aside0 (kq ≤ k) ∧ Aside0 (wc.heap[gb162]? = some (.cells #[.int .i64 a2_0, .int .i64 a2_1, .int .i64 a2_2, .int .i64 a2_3] 23 (0, 0))) ∧ Aside0 (Below w.heap.size w wc))
  case first =>
    have H := HC4.out
    clear HC4
    by_cases c6 : a0 < 0
    · rw [if_pos c6] at H
      have c6b0 : decide (a0 < 0) = true := decide_eq_true c6
      clear c6
      (first | rw [c6b0] | (simp only [i64_w, i32_w]; rw [c6b0]) | skip)
      have H' := Aside0.mk H
      clear H
      go_wp2
      go_meet
      case rel => exact ⟨_, (true), (by first | rfl | (simp; done) | (simp [*]; done)), H', ⟨by first | omega | exact Nat.le_refl _⟩, ⟨by (with_reducible repeat (first | refine blk_drewN ?_ _ | refine blk_drew ?_ | refine blk_alloc ?_ _)); exact BK162.out⟩, ⟨by repeat (first | (with_reducible first | exact HB.out | apply below_alloc | apply pw_below_drewN | apply below_drew1 | refine below_set ?_ GE162.out) | exact HB.out)⟩⟩
    · rw [if_neg c6] at H
      have c6b0 : decide (a0 < 0) = false := decide_eq_false c6
      clear c6
      (first | rw [c6b0] | (simp only [i64_w, i32_w]; rw [c6b0]) | skip)
      by_cases c7 : a0 > 1099511627776
      · rw [if_pos c7] at H
        have c7b0 : decide (1099511627776 < a0) = true := decide_eq_true c7
        clear c7
        have H' := Aside0.mk H
        clear H
        go_wp2
        go_meet
        case rel => exact ⟨_, (true), (by first | rfl | (simp; done) | (simp [*]; done)), H', ⟨by first | omega | exact Nat.le_refl _⟩, ⟨by (with_reducible repeat (first | refine blk_drewN ?_ _ | refine blk_drew ?_ | refine blk_alloc ?_ _)); exact BK162.out⟩, ⟨by repeat (first | (with_reducible first | exact HB.out | apply below_alloc | apply pw_below_drewN | apply below_drew1 | refine below_set ?_ GE162.out) | exact HB.out)⟩⟩
      · rw [if_neg c7] at H
        have c7b0 : decide (1099511627776 < a0) = false := decide_eq_false c7
        clear c7
        replace H := Option.bind_eq_some_iff.mp H
        obtain ⟨t163, A80, H⟩ := H
        replace H : (hamperlaw26_SliceMore.j0 k a0 a1 (!t163) a2_0 a2_1 a2_2 a2_3) = some r := H
        have A8 := Aside0.mk A80
        clear A80
        have H' := Aside0.mk H
        clear H
        go_wp2_with (first | (go_at_call 10; (with_reducible refine (hamperlaw26_awake.calls  t163 _ A8.out).mono ?_); rintro e w9 ⟨rfl, hb⟩; have n0_ := Aside0.mk (blk_below (g := gb162) (o := .cells #[.int .i64 a2_0, .int .i64 a2_1, .int .i64 a2_2, .int .i64 a2_3] 23 (0, 0)) (by (with_reducible repeat (first | refine blk_drewN ?_ _ | refine blk_drew ?_ | refine blk_alloc ?_ _)); exact BK162.out) hb); have n1_ := Aside0.mk (below_step (by repeat (first | (with_reducible first | exact HB.out | apply below_alloc | apply pw_below_drewN | apply below_drew1 | refine below_set ?_ GE162.out) | exact HB.out)) hb); clear BK162; clear HB; have BK162 := n0_; have HB := n1_; clear n0_ n1_; (try clear hb); (try clear hb2); (try clear hk); (try clear hi)))
        go_meet
        case rel => exact ⟨_, (!t163), (by first | rfl | (simp; done) | (simp [*]; done)), H', ⟨by first | omega | exact Nat.le_refl _⟩, ⟨by (with_reducible repeat (first | refine blk_drewN ?_ _ | refine blk_drew ?_ | refine blk_alloc ?_ _)); exact BK162.out⟩, ⟨by repeat (first | (with_reducible first | exact HB.out | apply below_alloc | apply pw_below_drewN | apply below_drew1 | refine below_set ?_ GE162.out) | exact HB.out)⟩⟩
  case rest =>
    clear HC4
    try clear p2
    try clear c6
    try clear c6b0
    try clear c7
    try clear c7b0
    try clear c8
    obtain ⟨kq, x23_3, rfl, HA, HJ3, BK162, HB⟩ := hcut
    cases kq with
    | zero => exact absurd HA.out (by simp [hamperlaw26_SliceMore.j0])
    | succ kj3 =>
      have H := HA.out
      clear HA
      simp only [hamperlaw26_SliceMore.j0] at H
      by_cases c10 : x23_3 = true
      · subst c10
        have H1 : ((hamperlaw26_awake.f).bind fun t164 => (some t164)) = some r := by rw [if_pos rfl] at H; exact H
        clear H
        have H := H1
        clear H1
        replace H := Option.bind_eq_some_iff.mp H
        obtain ⟨t164, A110, H⟩ := H
        replace H : (some t164) = some r := H
        have A11 := Aside0.mk A110
        clear A110
        obtain rfl := Option.some.inj H
        go_wp2_with (first | ((with_reducible refine gate_callee (f := 10) rfl ?_); refine goesL_ (some 24) rfl rfl Tryd.func10 (by kernel_rfl) rfl #[] rfl (by (try simp only [List.map_toArray, List.map_cons, List.map_nil]); first | done | rfl | (simp only [List.length_drop, List.length_take]; rfl)) ?_; (with_reducible refine (hamperlaw26_awake.calls  t164 _ A11.out).mono ?_); rintro e w12 ⟨rfl, hb⟩; refine ⟨_, rfl, ?_⟩; have n0_ := Aside0.mk (blk_below (g := gb162) (o := .cells #[.int .i64 a2_0, .int .i64 a2_1, .int .i64 a2_2, .int .i64 a2_3] 23 (0, 0)) (by (with_reducible repeat (first | refine blk_drewN ?_ _ | refine blk_drew ?_ | refine blk_alloc ?_ _)); exact BK162.out) hb); have n1_ := Aside0.mk (below_step (by repeat (first | (with_reducible first | exact HB.out | apply below_alloc | apply pw_below_drewN | apply below_drew1 | refine below_set ?_ GE162.out) | exact HB.out)) hb); clear BK162; clear HB; have BK162 := n0_; have HB := n1_; clear n0_ n1_; (try clear hb); (try clear hb2); (try clear hk); (try clear hi)))
        go_ret
        exact ⟨by first | rfl | (simp [errW_none, errW_some] <;> rfl) | (simp [*, errW_none, errW_some] <;> rfl), by repeat (first | (with_reducible first | exact HB.out | apply below_alloc | apply pw_below_drewN | apply below_drew1 | refine below_set ?_ GE162.out) | exact HB.out)⟩
      · replace c10 := Bool.eq_false_iff.mpr c10
        subst c10
        have H1 : ((slice_Count.f kj3 a0 a2_0 a2_1 a2_2 a2_3).bind fun bt165 => ((slice_Count.f kj3 (wrap64 (a0 + (wrap64 (Int.tmod (IntKind.u64.wrap (a1)) 100000)))) a2_0 a2_1 a2_2 a2_3).bind fun bt167 => (if bt165.2 = 40 then (if bt167.2 = 40 then (if bt165.2 = 0 then (if bt167.2 = 0 then (hamperlaw26_SliceMore.j1 kj3 a0 bt165.1 bt165.2 (decide (bt167.1 < bt165.1)) a2_0 a2_1 a2_2 a2_3) else (hamperlaw26_SliceMore.j1 kj3 a0 bt165.1 bt165.2 false a2_0 a2_1 a2_2 a2_3)) else (hamperlaw26_SliceMore.j1 kj3 a0 bt165.1 bt165.2 false a2_0 a2_1 a2_2 a2_3)) else (hamperlaw26_SliceMore.j1 kj3 a0 bt165.1 bt165.2 true a2_0 a2_1 a2_2 a2_3)) else (if bt165.2 = 0 then (if bt167.2 = 0 then (hamperlaw26_SliceMore.j1 kj3 a0 bt165.1 bt165.2 (decide (bt167.1 < bt165.1)) a2_0 a2_1 a2_2 a2_3) else (hamperlaw26_SliceMore.j1 kj3 a0 bt165.1 bt165.2 false a2_0 a2_1 a2_2 a2_3)) else (hamperlaw26_SliceMore.j1 kj3 a0 bt165.1 bt165.2 false a2_0 a2_1 a2_2 a2_3))))) = some r := by rw [if_neg (show ¬ (false = true) by decide)] at H; exact H
        clear H
        have H := H1
        clear H1
        replace H := Option.bind_eq_some_iff.mp H
        obtain ⟨⟨t165, t166⟩, A130, H⟩ := H
        replace H : ((slice_Count.f kj3 (wrap64 (a0 + (wrap64 (Int.tmod (IntKind.u64.wrap (a1)) 100000)))) a2_0 a2_1 a2_2 a2_3).bind fun bt167 => (if t166 = 40 then (if bt167.2 = 40 then (if t166 = 0 then (if bt167.2 = 0 then (hamperlaw26_SliceMore.j1 kj3 a0 t165 t166 (decide (bt167.1 < t165)) a2_0 a2_1 a2_2 a2_3) else (hamperlaw26_SliceMore.j1 kj3 a0 t165 t166 false a2_0 a2_1 a2_2 a2_3)) else (hamperlaw26_SliceMore.j1 kj3 a0 t165 t166 false a2_0 a2_1 a2_2 a2_3)) else (hamperlaw26_SliceMore.j1 kj3 a0 t165 t166 true a2_0 a2_1 a2_2 a2_3)) else (if t166 = 0 then (if bt167.2 = 0 then (hamperlaw26_SliceMore.j1 kj3 a0 t165 t166 (decide (bt167.1 < t165)) a2_0 a2_1 a2_2 a2_3) else (hamperlaw26_SliceMore.j1 kj3 a0 t165 t166 false a2_0 a2_1 a2_2 a2_3)) else (hamperlaw26_SliceMore.j1 kj3 a0 t165 t166 false a2_0 a2_1 a2_2 a2_3)))) = some r := H
        have A13 := Aside0.mk A130
        clear A130
        replace H := Option.bind_eq_some_iff.mp H
        obtain ⟨⟨t167, t168⟩, A140, H⟩ := H
        replace H : (if t166 = 40 then (if t168 = 40 then (if t166 = 0 then (if t168 = 0 then (hamperlaw26_SliceMore.j1 kj3 a0 t165 t166 (decide (t167 < t165)) a2_0 a2_1 a2_2 a2_3) else (hamperlaw26_SliceMore.j1 kj3 a0 t165 t166 false a2_0 a2_1 a2_2 a2_3)) else (hamperlaw26_SliceMore.j1 kj3 a0 t165 t166 false a2_0 a2_1 a2_2 a2_3)) else (hamperlaw26_SliceMore.j1 kj3 a0 t165 t166 true a2_0 a2_1 a2_2 a2_3)) else (if t166 = 0 then (if t168 = 0 then (hamperlaw26_SliceMore.j1 kj3 a0 t165 t166 (decide (t167 < t165)) a2_0 a2_1 a2_2 a2_3) else (hamperlaw26_SliceMore.j1 kj3 a0 t165 t166 false a2_0 a2_1 a2_2 a2_3)) else (hamperlaw26_SliceMore.j1 kj3 a0 t165 t166 false a2_0 a2_1 a2_2 a2_3))) = some r := H
        have A14 := Aside0.mk A140
        clear A140
        have HC15 := Aside0.mk H
        clear H
        have hcz16_0 : wc.cell? ⟨gb162, 0, none⟩ = some (.int .i64 a2_0) := (blk_cell BK162.out 0).trans rfl
        have hcz16_1 : wc.cell? ⟨gb162, 1, none⟩ = some (.int .i64 a2_1) := (blk_cell BK162.out 1).trans rfl
        have hcz16_2 : wc.cell? ⟨gb162, 2, none⟩ = some (.int .i64 a2_2) := (blk_cell BK162.out 2).trans rfl
        have hcz16_3 : wc.cell? ⟨gb162, 3, none⟩ = some (.int .i64 a2_3) := (blk_cell BK162.out 3).trans rfl
        have hfz16_0 := blk_frozen BK162.out 0
        have hfz16_1 := blk_frozen BK162.out 1
        have hfz16_2 := blk_frozen BK162.out 2
        have hfz16_3 := blk_frozen BK162.out 3
        go_upto_region 5 with (first | ((with_reducible refine gate_callee (f := 15) rfl ?_); refine goesL_ (some 28) rfl rfl Tryd.func15 (by kernel_rfl) rfl #[.int .i64 a0, .agg #[.int .i64 a2_0, .int .i64 a2_1, .int .i64 a2_2, .int .i64 a2_3]] rfl (by (try simp only [List.map_toArray, List.map_cons, List.map_nil]); first | done | rfl | (simp only [List.length_drop, List.length_take]; rfl)) ?_; (with_reducible refine (slice_Count.calls kj3 a0 a2_0 a2_1 a2_2 a2_3 t165 t166 _ A13.out).mono ?_); rintro e w17 ⟨rfl, hb⟩; refine ⟨_, rfl, ?_⟩; have n0_ := Aside0.mk (blk_below (g := gb162) (o := .cells #[.int .i64 a2_0, .int .i64 a2_1, .int .i64 a2_2, .int .i64 a2_3] 23 (0, 0)) (by (with_reducible repeat (first | refine blk_drewN ?_ _ | refine blk_drew ?_ | refine blk_alloc ?_ _)); exact BK162.out) hb); have n1_ := Aside0.mk (below_step (by repeat (first | (with_reducible first | exact HB.out | apply below_alloc | apply pw_below_drewN | apply below_drew1 | refine below_set ?_ GE162.out) | exact HB.out)) hb); clear BK162; clear HB; have BK162 := n0_; have HB := n1_; clear n0_ n1_; (try clear hb); (try clear hb2); (try clear hk); (try clear hi); have hcz18_0 : w17.cell? ⟨gb162, 0, none⟩ = some (.int .i64 a2_0) := (blk_cell BK162.out 0).trans rfl; have hcz18_1 : w17.cell? ⟨gb162, 1, none⟩ = some (.int .i64 a2_1) := (blk_cell BK162.out 1).trans rfl; have hcz18_2 : w17.cell? ⟨gb162, 2, none⟩ = some (.int .i64 a2_2) := (blk_cell BK162.out 2).trans rfl; have hcz18_3 : w17.cell? ⟨gb162, 3, none⟩ = some (.int .i64 a2_3) := (blk_cell BK162.out 3).trans rfl; have hfz18_0 := blk_frozen BK162.out 0; have hfz18_1 := blk_frozen BK162.out 1; have hfz18_2 := blk_frozen BK162.out 2; have hfz18_3 := blk_frozen BK162.out 3) | ((with_reducible refine gate_callee (f := 15) rfl ?_); refine goesL_ (some 39) rfl rfl Tryd.func15 (by kernel_rfl) rfl #[.int .i64 (wrap64 (a0 + (wrap64 (Int.tmod (IntKind.u64.wrap (a1)) 100000)))), .agg #[.int .i64 a2_0, .int .i64 a2_1, .int .i64 a2_2, .int .i64 a2_3]] rfl (by (try simp only [List.map_toArray, List.map_cons, List.map_nil]); first | done | rfl | (simp only [List.length_drop, List.length_take]; rfl)) ?_; (with_reducible refine (slice_Count.calls kj3 (wrap64 (a0 + (wrap64 (Int.tmod (IntKind.u64.wrap (a1)) 100000)))) a2_0 a2_1 a2_2 a2_3 t167 t168 _ A14.out).mono ?_); rintro e w19 ⟨rfl, hb⟩; refine ⟨_, rfl, ?_⟩; have n0_ := Aside0.mk (blk_below (g := gb162) (o := .cells #[.int .i64 a2_0, .int .i64 a2_1, .int .i64 a2_2, .int .i64 a2_3] 23 (0, 0)) (by (with_reducible repeat (first | refine blk_drewN ?_ _ | refine blk_drew ?_ | refine blk_alloc ?_ _)); exact BK162.out) hb); have n1_ := Aside0.mk (below_step (by repeat (first | (with_reducible first | exact HB.out | apply below_alloc | apply pw_below_drewN | apply below_drew1 | refine below_set ?_ GE162.out) | exact HB.out)) hb); clear BK162; clear HB; have BK162 := n0_; have HB := n1_; clear n0_ n1_; (try clear hb); (try clear hb2); (try clear hk); (try clear hi)))
        (try simp only [Act.put, List.setIfInBounds_toArray, List.set_cons_zero, List.set_cons_succ])
        go_cut [60] (fun v60 wc => ∃ (kq : Nat) (x60_14 : Bool), v60 = .bool x60_14 ∧ Aside0 (hamperlaw26_SliceMore.j1 kq a0 t165 t166 x60_14 a2_0 a2_1 a2_2 a2_3 = some r) ∧ Aside0 (kq ≤ kj3) ∧ Aside0 (wc.heap[gb162]? = some (.cells #[.int .i64 a2_0, .int .i64 a2_1, .int .i64 a2_2, .int .i64 a2_3] 23 (0, 0))) ∧ Aside0 (Below w.heap.size w wc))
        case first =>
          have H := HC15.out
          clear HC15
          by_cases c20 : t166 = 40
          · rw [if_pos c20] at H
            have c20b0 : (t166 == 40) = true := beq_iff_eq.mpr c20
            have c20b1 : (t166 != 40) = false := bne_eq_false_iff_eq.mpr c20
            clear c20
            (first | rw [c20b0] | (simp only [i64_w, i32_w]; rw [c20b0]) | skip)
            by_cases c21 : t168 = 40
            · rw [if_pos c21] at H
              have c21b0 : (t168 == 40) = true := beq_iff_eq.mpr c21
              have c21b1 : (t168 != 40) = false := bne_eq_false_iff_eq.mpr c21
              clear c21
              by_cases c22 : t166 = 0
              · rw [if_pos c22] at H
                have c22b0 : (t166 == 0) = true := beq_iff_eq.mpr c22
                have c22b1 : (t166 != 0) = false := bne_eq_false_iff_eq.mpr c22
                clear c22
                by_cases c23 : t168 = 0
                · rw [if_pos c23] at H
                  have c23b0 : (t168 == 0) = true := beq_iff_eq.mpr c23
                  have c23b1 : (t168 != 0) = false := bne_eq_false_iff_eq.mpr c23
                  clear c23
                  have H' := Aside0.mk H
                  clear H
                  go_wp2
                  go_meet
                  case rel => exact ⟨_, (decide (t167 < t165)), (by first | rfl | (simp; done) | (simp [*]; done)), H', ⟨by have := HJ3.out; first | omega | exact Nat.le_refl _⟩, ⟨by (with_reducible repeat (first | refine blk_drewN ?_ _ | refine blk_drew ?_ | refine blk_alloc ?_ _)); exact BK162.out⟩, ⟨by repeat (first | (with_reducible first | exact HB.out | apply below_alloc | apply pw_below_drewN | apply below_drew1 | refine below_set ?_ GE162.out) | exact HB.out)⟩⟩
                · rw [if_neg c23] at H
                  have c23b0 : (t168 == 0) = false := beq_eq_false_iff_ne.mpr c23
                  have c23b1 : (t168 != 0) = true := bne_iff_ne.mpr c23
                  have H' := Aside0.mk H
                  clear H
                  go_wp2
                  go_meet
                  case rel => exact ⟨_, (false), (by first | rfl | (simp; done) | (simp [*]; done)), H', ⟨by have := HJ3.out; first | omega | exact Nat.le_refl _⟩, ⟨by (with_reducible repeat (first | refine blk_drewN ?_ _ | refine blk_drew ?_ | refine blk_alloc ?_ _)); exact BK162.out⟩, ⟨by repeat (first | (with_reducible first | exact HB.out | apply below_alloc | apply pw_below_drewN | apply below_drew1 | refine below_set ?_ GE162.out) | exact HB.out)⟩⟩
              · rw [if_neg c22] at H
                have c22b0 : (t166 == 0) = false := beq_eq_false_iff_ne.mpr c22
                have c22b1 : (t166 != 0) = true := bne_iff_ne.mpr c22
                have H' := Aside0.mk H
                clear H
                go_wp2
                go_meet
                case rel => exact ⟨_, (false), (by first | rfl | (simp; done) | (simp [*]; done)), H', ⟨by have := HJ3.out; first | omega | exact Nat.le_refl _⟩, ⟨by (with_reducible repeat (first | refine blk_drewN ?_ _ | refine blk_drew ?_ | refine blk_alloc ?_ _)); exact BK162.out⟩, ⟨by repeat (first | (with_reducible first | exact HB.out | apply below_alloc | apply pw_below_drewN | apply below_drew1 | refine below_set ?_ GE162.out) | exact HB.out)⟩⟩
            · rw [if_neg c21] at H
              have c21b0 : (t168 == 40) = false := beq_eq_false_iff_ne.mpr c21
              have c21b1 : (t168 != 40) = true := bne_iff_ne.mpr c21
              have H' := Aside0.mk H
              clear H
              go_wp2
              go_meet
              case rel => exact ⟨_, (true), (by first | rfl | (simp; done) | (simp [*]; done)), H', ⟨by have := HJ3.out; first | omega | exact Nat.le_refl _⟩, ⟨by (with_reducible repeat (first | refine blk_drewN ?_ _ | refine blk_drew ?_ | refine blk_alloc ?_ _)); exact BK162.out⟩, ⟨by repeat (first | (with_reducible first | exact HB.out | apply below_alloc | apply pw_below_drewN | apply below_drew1 | refine below_set ?_ GE162.out) | exact HB.out)⟩⟩
          · rw [if_neg c20] at H
            have c20b0 : (t166 == 40) = false := beq_eq_false_iff_ne.mpr c20
            have c20b1 : (t166 != 40) = true := bne_iff_ne.mpr c20
            (first | rw [c20b0] | (simp only [i64_w, i32_w]; rw [c20b0]) | skip)
            by_cases c24 : t166 = 0
            · rw [if_pos c24] at H
              have c24b0 : (t166 == 0) = true := beq_iff_eq.mpr c24
              have c24b1 : (t166 != 0) = false := bne_eq_false_iff_eq.mpr c24
              clear c24
              by_cases c25 : t168 = 0
              · rw [if_pos c25] at H
                have c25b0 : (t168 == 0) = true := beq_iff_eq.mpr c25
                have c25b1 : (t168 != 0) = false := bne_eq_false_iff_eq.mpr c25
                clear c25
                have H' := Aside0.mk H
                clear H
                go_wp2
                go_meet
                case rel => exact ⟨_, (decide (t167 < t165)), (by first | rfl | (simp; done) | (simp [*]; done)), H', ⟨by have := HJ3.out; first | omega | exact Nat.le_refl _⟩, ⟨by (with_reducible repeat (first | refine blk_drewN ?_ _ | refine blk_drew ?_ | refine blk_alloc ?_ _)); exact BK162.out⟩, ⟨by repeat (first | (with_reducible first | exact HB.out | apply below_alloc | apply pw_below_drewN | apply below_drew1 | refine below_set ?_ GE162.out) | exact HB.out)⟩⟩
              · rw [if_neg c25] at H
                have c25b0 : (t168 == 0) = false := beq_eq_false_iff_ne.mpr c25
                have c25b1 : (t168 != 0) = true := bne_iff_ne.mpr c25
                have H' := Aside0.mk H
                clear H
                go_wp2
                go_meet
                case rel => exact ⟨_, (false), (by first | rfl | (simp; done) | (simp [*]; done)), H', ⟨by have := HJ3.out; first | omega | exact Nat.le_refl _⟩, ⟨by (with_reducible repeat (first | refine blk_drewN ?_ _ | refine blk_drew ?_ | refine blk_alloc ?_ _)); exact BK162.out⟩, ⟨by repeat (first | (with_reducible first | exact HB.out | apply below_alloc | apply pw_below_drewN | apply below_drew1 | refine below_set ?_ GE162.out) | exact HB.out)⟩⟩
            · rw [if_neg c24] at H
              have c24b0 : (t166 == 0) = false := beq_eq_false_iff_ne.mpr c24
              have c24b1 : (t166 != 0) = true := bne_iff_ne.mpr c24
              have H' := Aside0.mk H
              clear H
              go_wp2
              go_meet
              case rel => exact ⟨_, (false), (by first | rfl | (simp; done) | (simp [*]; done)), H', ⟨by have := HJ3.out; first | omega | exact Nat.le_refl _⟩, ⟨by (with_reducible repeat (first | refine blk_drewN ?_ _ | refine blk_drew ?_ | refine blk_alloc ?_ _)); exact BK162.out⟩, ⟨by repeat (first | (with_reducible first | exact HB.out | apply below_alloc | apply pw_below_drewN | apply below_drew1 | refine below_set ?_ GE162.out) | exact HB.out)⟩⟩
        case rest =>
          clear HC15
          try clear c1
          try clear c2
          try clear p2
          try clear c6
          try clear c6b0
          try clear p6
          try clear c7
          try clear c7b0
          try clear c8
          try clear c10
          try clear c15
          try clear c20
          try clear c20b0
          try clear c20b1
          try clear c21
          try clear c21b0
          try clear c21b1
          try clear c22
          try clear c22b0
          try clear c22b1
          try clear c23
          try clear c23b0
          try clear c23b1
          try clear c24
          try clear c24b0
          try clear c24b1
          try clear c25
          try clear c25b0
          try clear c25b1
          try clear hcz16_0
          try clear hcz16_1
          try clear hcz16_2
          try clear hcz16_3
          try clear hcz18_0
          try clear hcz18_1
          try clear hcz18_2
          try clear hcz18_3
          try clear hfz16_0
          try clear hfz16_1
          try clear hfz16_2
          try clear hfz16_3
          try clear hfz18_0
          try clear hfz18_1
          try clear hfz18_2
          try clear hfz18_3
          try clear p2
          obtain ⟨kq, x60_14, rfl, HA, HJ14, BK162, HB⟩ := hcut
          cases kq with
          | zero => exact absurd HA.out (by simp [hamperlaw26_SliceMore.j1])
          | succ kj14 =>
            have H := HA.out
            clear HA
            simp only [hamperlaw26_SliceMore.j1] at H
            by_cases c26 : x60_14 = true
            · subst c26
              have H1 : (some false) = some r := by rw [if_pos rfl] at H; exact H
              clear H
              have H := H1
              clear H1
              obtain rfl := Option.some.inj H
              go_wp2
              go_ret
              exact ⟨by first | rfl | (simp [errW_none, errW_some] <;> rfl) | (simp [*, errW_none, errW_some] <;> rfl), by repeat (first | (with_reducible first | exact HB.out | apply below_alloc | apply pw_below_drewN | apply below_drew1 | refine below_set ?_ GE162.out) | exact HB.out)⟩
            · replace c26 := Bool.eq_false_iff.mpr c26
              subst c26
              have H1 : ((slice_Count.f kj14 a0 (wrap64 (a2_0 + 1)) a2_1 (wrap64 (a2_2 + 2)) a2_3).bind fun bt170 => (if t166 = 0 then (if bt170.2 = 0 then (some (decide (bt170.1 ≤ t165))) else ((slice_Shape.f (wrap64 (a2_0 + 1)) a2_1 (wrap64 (a2_2 + 2)) a2_3).bind fun t172 => (if t172 = true then (some false) else (some true)))) else (some true))) = some r := by rw [if_neg (show ¬ (false = true) by decide)] at H; exact H
              clear H
              have H := H1
              clear H1
              replace H := Option.bind_eq_some_iff.mp H
              obtain ⟨⟨t170, t171⟩, A270, H⟩ := H
              replace H : (if t166 = 0 then (if t171 = 0 then (some (decide (t170 ≤ t165))) else ((slice_Shape.f (wrap64 (a2_0 + 1)) a2_1 (wrap64 (a2_2 + 2)) a2_3).bind fun t172 => (if t172 = true then (some false) else (some true)))) else (some true)) = some r := H
              have A27 := Aside0.mk A270
              clear A270
              have z0 := blk_cell BK162.out 0
              have z1 := blk_cell BK162.out 1
              have z2 := blk_cell BK162.out 2
              have z3 := blk_cell BK162.out 3
              simp only [List.getElem?_toArray, List.getElem?_cons_zero, List.getElem?_cons_succ] at z0 z1 z2 z3
              obtain ⟨D1, hD1⟩ : ∃ x, wrap64 (a2_0 + 1) = x := ⟨_, rfl⟩
              obtain ⟨S1, hS1⟩ : ∃ x, wrap64 (a2_2 + 2) = x := ⟨_, rfl⟩
              rw [hD1, hS1] at A27 H
              have hwD : IntKind.i64.wrap (a2_0 + 1) = D1 := (i64_w _).trans hD1
              have hwS : IntKind.i64.wrap (a2_2 + 2) = S1 := (i64_w _).trans hS1
              clear hD1 hS1
              go_upto_region 8 with (first | ((with_reducible refine gate_dst (N := 11) rfl ?_); refine box_event ?hg (N := 11) ?hd (cs := #[.int .i64 0, .int .i64 0, .int .i64 0, .int .i64 0]) (t := 23) ?hr ?_; (case hd => rfl); (case hg => rfl); (case hr => first | (go_simp; done) | (go_simp; rfl)); intro gb hg w1 hbox hb; have HB1 := Aside0.mk (below_step HB.out hb); have GB := Aside0.mk (show w.heap.size ≤ gb by rw [hg]; exact below_size HB.out); clear HB; have HB := HB1; clear HB1; have BK := Aside0.mk hbox; clear BK162; clear hb hbox hg; have y0 := (blk_cell BK.out 0).trans rfl; have y1 := (blk_cell BK.out 1).trans rfl; have y2 := (blk_cell BK.out 2).trans rfl; have y3 := (blk_cell BK.out 3).trans rfl; have f0 := blk_frozen BK.out 0; have f1 := blk_frozen BK.out 1; have f2 := blk_frozen BK.out 2; have f3 := blk_frozen BK.out 3; simp only [List.getElem?_toArray, List.getElem?_cons_zero, List.getElem?_cons_succ] at y0 y1 y2 y3))
              have B1 : ((((w1.setCell ⟨gb, 0, none⟩ (.int .i64 a2_0)).setCell ⟨gb, 1, none⟩ (.int .i64 a2_1)).setCell ⟨gb, 2, none⟩ (.int .i64 a2_2)).setCell ⟨gb, 3, none⟩ (.int .i64 a2_3)).heap[gb]? = some (.cells #[.int .i64 a2_0, .int .i64 a2_1, .int .i64 a2_2, .int .i64 a2_3] 23 (0, 0)) := by
                refine blk_put (cs := #[.int .i64 a2_0, .int .i64 a2_1, .int .i64 a2_2, .int .i64 0]) ?_ 3 _ rfl
                refine blk_put (cs := #[.int .i64 a2_0, .int .i64 a2_1, .int .i64 0, .int .i64 0]) ?_ 2 _ rfl
                refine blk_put (cs := #[.int .i64 a2_0, .int .i64 0, .int .i64 0, .int .i64 0]) ?_ 1 _ rfl
                refine blk_put (cs := #[.int .i64 0, .int .i64 0, .int .i64 0, .int .i64 0]) ?_ 0 _ rfl
                exact BK.out
              have HB1 : Below w.heap.size w ((((w1.setCell ⟨gb, 0, none⟩ (.int .i64 a2_0)).setCell ⟨gb, 1, none⟩ (.int .i64 a2_1)).setCell ⟨gb, 2, none⟩ (.int .i64 a2_2)).setCell ⟨gb, 3, none⟩ (.int .i64 a2_3)) := below_set (below_set (below_set (below_set HB.out GB.out) GB.out) GB.out) GB.out
              clear y0 y1 y2 y3 f0 f1 f2 f3 z0 z1 z2 z3 HB BK
              generalize ((((w1.setCell ⟨gb, 0, none⟩ (.int .i64 a2_0)).setCell ⟨gb, 1, none⟩ (.int .i64 a2_1)).setCell ⟨gb, 2, none⟩ (.int .i64 a2_2)).setCell ⟨gb, 3, none⟩ (.int .i64 a2_3)) = w2 at *
              have BK := Aside0.mk B1
              have HB := Aside0.mk HB1
              clear B1 HB1
              have y0 := blk_cell BK.out 0
              have f0 := blk_frozen BK.out 0
              simp only [List.getElem?_toArray, List.getElem?_cons_zero, List.getElem?_cons_succ] at y0
              go_upto_region 9 with fail
              have B1 : (w2.setCell ⟨gb, 0, none⟩ (.int .i64 D1)).heap[gb]? = some (.cells #[.int .i64 D1, .int .i64 a2_1, .int .i64 a2_2, .int .i64 a2_3] 23 (0, 0)) := by
                refine blk_put (cs := #[.int .i64 a2_0, .int .i64 a2_1, .int .i64 a2_2, .int .i64 a2_3]) ?_ 0 _ rfl
                exact BK.out
              have HB1 : Below w.heap.size w (w2.setCell ⟨gb, 0, none⟩ (.int .i64 D1)) := below_set HB.out GB.out
              clear y0 f0 HB BK
              generalize (w2.setCell ⟨gb, 0, none⟩ (.int .i64 D1)) = w3 at *
              have BK := Aside0.mk B1
              have HB := Aside0.mk HB1
              clear B1 HB1
              have y2 := blk_cell BK.out 2
              have f2 := blk_frozen BK.out 2
              simp only [List.getElem?_toArray, List.getElem?_cons_zero, List.getElem?_cons_succ] at y2
              go_upto_region 10 with fail
              have B1 : (w3.setCell ⟨gb, 2, none⟩ (.int .i64 S1)).heap[gb]? = some (.cells #[.int .i64 D1, .int .i64 a2_1, .int .i64 S1, .int .i64 a2_3] 23 (0, 0)) := by
                refine blk_put (cs := #[.int .i64 D1, .int .i64 a2_1, .int .i64 a2_2, .int .i64 a2_3]) ?_ 2 _ rfl
                exact BK.out
              have HB1 : Below w.heap.size w (w3.setCell ⟨gb, 2, none⟩ (.int .i64 S1)) := below_set HB.out GB.out
              clear y2 f2 HB BK
              generalize (w3.setCell ⟨gb, 2, none⟩ (.int .i64 S1)) = w4 at *
              have BK := Aside0.mk B1
              have HB := Aside0.mk HB1
              clear B1 HB1
              have y0 := blk_cell BK.out 0
              have y1 := blk_cell BK.out 1
              have y2 := blk_cell BK.out 2
              have y3 := blk_cell BK.out 3
              simp only [List.getElem?_toArray, List.getElem?_cons_zero, List.getElem?_cons_succ] at y0 y1 y2 y3
              go_upto_region 11 with (first | ((with_reducible refine gate_callee (f := 15) rfl ?_); refine goesL_ (some 73) rfl rfl Tryd.func15 (by kernel_rfl) rfl #[.int .i64 a0, .agg #[.int .i64 D1, .int .i64 a2_1, .int .i64 S1, .int .i64 a2_3]] rfl (by (try simp only [List.map_toArray, List.map_cons, List.map_nil]); first | done | rfl) ?_; (with_reducible refine (slice_Count.calls kj14 a0 D1 a2_1 S1 a2_3 t170 t171 _ A27.out).mono ?_); rintro e w34 ⟨rfl, hb⟩; refine ⟨_, rfl, ?_⟩; have n1_ := Aside0.mk (blk_below BK.out hb); have n2_ := Aside0.mk (below_step HB.out hb); clear BK HB y0 y1 y2 y3; have BK := n1_; have HB := n2_; clear n1_ n2_ hb))
              have y0 := blk_cell BK.out 0
              have y1 := blk_cell BK.out 1
              have y2 := blk_cell BK.out 2
              have y3 := blk_cell BK.out 3
              simp only [List.getElem?_toArray, List.getElem?_cons_zero, List.getElem?_cons_succ] at y0 y1 y2 y3
              by_cases c28 : t166 = 0
              · rw [if_pos c28] at H
                have c28b0 : (t166 == 0) = true := beq_iff_eq.mpr c28
                have c28b1 : (t166 != 0) = false := bne_eq_false_iff_eq.mpr c28
                clear c28
                by_cases c29 : t171 = 0
                · rw [if_pos c29] at H
                  have c29b0 : (t171 == 0) = true := beq_iff_eq.mpr c29
                  have c29b1 : (t171 != 0) = false := bne_eq_false_iff_eq.mpr c29
                  clear c29
                  obtain rfl := Option.some.inj H
                  go_wp2
                  go_ret
                  exact ⟨rfl, HB.out⟩
                · rw [if_neg c29] at H
                  have c29b0 : (t171 == 0) = false := beq_eq_false_iff_ne.mpr c29
                  have c29b1 : (t171 != 0) = true := bne_iff_ne.mpr c29
                  clear c29
                  replace H := Option.bind_eq_some_iff.mp H
                  obtain ⟨t172, A300, H⟩ := H
                  have A30 := Aside0.mk A300
                  clear A300
                  cases t172 with
                  | true =>
                    replace H : some false = some r := H
                    obtain rfl := Option.some.inj H
                    go_wp2_with (first | (go_at_call 19; (with_reducible refine (slice_Shape.calls D1 a2_1 S1 a2_3 _ _ A30.out).mono ?_); rintro e w35 ⟨rfl, hb⟩; have n2_ := Aside0.mk (below_step HB.out hb); clear BK HB y0 y1 y2 y3; have HB := n2_; clear n2_ hb))
                    go_ret
                    exact ⟨rfl, HB.out⟩
                  | false =>
                    replace H : some true = some r := H
                    obtain rfl := Option.some.inj H
                    go_wp2_with (first | (go_at_call 19; (with_reducible refine (slice_Shape.calls D1 a2_1 S1 a2_3 _ _ A30.out).mono ?_); rintro e w35 ⟨rfl, hb⟩; have n2_ := Aside0.mk (below_step HB.out hb); clear BK HB y0 y1 y2 y3; have HB := n2_; clear n2_ hb))
                    go_ret
                    exact ⟨rfl, HB.out⟩
              · rw [if_neg c28] at H
                have c28b0 : (t166 == 0) = false := beq_eq_false_iff_ne.mpr c28
                have c28b1 : (t166 != 0) = true := bne_iff_ne.mpr c28
                clear c28
                obtain rfl := Option.some.inj H
                go_wp2
                go_ret
                exact ⟨rfl, HB.out⟩
end Go.Proofs.YtnnkenbcdepafaaDoor.L
