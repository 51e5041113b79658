/- Walks of functions of the given program, written by a program of this session (hp.py). -/
import Derived.Test.YtnnkenbcdepafaaGreatDoorB0
namespace Go.Proofs.YtnnkenbcdepafaaGreatDoor.B
open Go.RowKit Go.Proofs.YtnnkenbcdepafaaGreatDoorW.PrintWords Go.Proofs.YtnnkenbcdepafaaGreatDoorW.PrintLast Go.Proofs.YtnnkenbcdepafaaGreatDoorW.PrintMore
attribute [local go_sem] max2_int min2_int max_two min_two max_three min_three max_four min_four   -- for this text's walks alone
set_option linter.unusedVariables false
set_option linter.unusedSimpArgs false

/-! ### hamperref05_First: function 72 -/
mutual
def hamperref05_First.l0 : Nat → List Int → List Int → Int → Int → Option (List Int)
  | 0, _, _, _, _ => none
  | k + 1, x1, x12, x13, x14 => if x14 < x13 then (if 0 ≤ x14 then (if x14 < (x12.length : Int) then (hamperref05_First.l1 k x1 (rd x12 x14) 0 34359738368 x12 x13 x14) else (none)) else (none)) else (some x1)
def hamperref05_First.l1 : Nat → List Int → Int → Int → Int → List Int → Int → Int → Option (List Int)
  | 0, _, _, _, _, _, _, _ => none
  | k + 1, x1, x3, x4, x5, x12, x13, x14 => if x5 > 0 then (if (IntKind.u64.wrap ((IntKind.u64.wrap ((Int.tmod (IntKind.u64.wrap (x4 + x5)) 4294967296) * (Int.tmod (IntKind.u64.wrap (x4 + x5)) 4294967296))) + (IntKind.u64.wrap ((IntKind.u64.wrap ((IntKind.u64.wrap (2 * ((IntKind.u64.wrap (x4 + x5)) / 4294967296))) * (Int.tmod (IntKind.u64.wrap (x4 + x5)) 4294967296))) * 4294967296)))) < (IntKind.u64.wrap ((Int.tmod (IntKind.u64.wrap (x4 + x5)) 4294967296) * (Int.tmod (IntKind.u64.wrap (x4 + x5)) 4294967296))) then (if (IntKind.u64.wrap ((IntKind.u64.wrap ((IntKind.u64.wrap (((IntKind.u64.wrap (x4 + x5)) / 4294967296) * ((IntKind.u64.wrap (x4 + x5)) / 4294967296))) + ((IntKind.u64.wrap ((IntKind.u64.wrap (2 * ((IntKind.u64.wrap (x4 + x5)) / 4294967296))) * (Int.tmod (IntKind.u64.wrap (x4 + x5)) 4294967296))) / 4294967296))) + 1)) < x3 then (hamperref05_First.l1 k x1 x3 (IntKind.u64.wrap (x4 + x5)) (IntKind.u64.wrap (Int.tdiv x5 2)) x12 x13 x14) else (if (IntKind.u64.wrap ((IntKind.u64.wrap ((IntKind.u64.wrap (((IntKind.u64.wrap (x4 + x5)) / 4294967296) * ((IntKind.u64.wrap (x4 + x5)) / 4294967296))) + ((IntKind.u64.wrap ((IntKind.u64.wrap (2 * ((IntKind.u64.wrap (x4 + x5)) / 4294967296))) * (Int.tmod (IntKind.u64.wrap (x4 + x5)) 4294967296))) / 4294967296))) + 1)) = x3 then (if (IntKind.u64.wrap ((IntKind.u64.wrap ((Int.tmod (IntKind.u64.wrap (x4 + x5)) 4294967296) * (Int.tmod (IntKind.u64.wrap (x4 + x5)) 4294967296))) + (IntKind.u64.wrap ((IntKind.u64.wrap ((IntKind.u64.wrap (2 * ((IntKind.u64.wrap (x4 + x5)) / 4294967296))) * (Int.tmod (IntKind.u64.wrap (x4 + x5)) 4294967296))) * 4294967296)))) = 0 then (hamperref05_First.l1 k x1 x3 (IntKind.u64.wrap (x4 + x5)) (IntKind.u64.wrap (Int.tdiv x5 2)) x12 x13 x14) else (hamperref05_First.l1 k x1 x3 x4 (IntKind.u64.wrap (Int.tdiv x5 2)) x12 x13 x14)) else (hamperref05_First.l1 k x1 x3 x4 (IntKind.u64.wrap (Int.tdiv x5 2)) x12 x13 x14))) else (if (IntKind.u64.wrap ((IntKind.u64.wrap (((IntKind.u64.wrap (x4 + x5)) / 4294967296) * ((IntKind.u64.wrap (x4 + x5)) / 4294967296))) + ((IntKind.u64.wrap ((IntKind.u64.wrap (2 * ((IntKind.u64.wrap (x4 + x5)) / 4294967296))) * (Int.tmod (IntKind.u64.wrap (x4 + x5)) 4294967296))) / 4294967296))) < x3 then (hamperref05_First.l1 k x1 x3 (IntKind.u64.wrap (x4 + x5)) (IntKind.u64.wrap (Int.tdiv x5 2)) x12 x13 x14) else (if (IntKind.u64.wrap ((IntKind.u64.wrap (((IntKind.u64.wrap (x4 + x5)) / 4294967296) * ((IntKind.u64.wrap (x4 + x5)) / 4294967296))) + ((IntKind.u64.wrap ((IntKind.u64.wrap (2 * ((IntKind.u64.wrap (x4 + x5)) / 4294967296))) * (Int.tmod (IntKind.u64.wrap (x4 + x5)) 4294967296))) / 4294967296))) = x3 then (if (IntKind.u64.wrap ((IntKind.u64.wrap ((Int.tmod (IntKind.u64.wrap (x4 + x5)) 4294967296) * (Int.tmod (IntKind.u64.wrap (x4 + x5)) 4294967296))) + (IntKind.u64.wrap ((IntKind.u64.wrap ((IntKind.u64.wrap (2 * ((IntKind.u64.wrap (x4 + x5)) / 4294967296))) * (Int.tmod (IntKind.u64.wrap (x4 + x5)) 4294967296))) * 4294967296)))) = 0 then (hamperref05_First.l1 k x1 x3 (IntKind.u64.wrap (x4 + x5)) (IntKind.u64.wrap (Int.tdiv x5 2)) x12 x13 x14) else (hamperref05_First.l1 k x1 x3 x4 (IntKind.u64.wrap (Int.tdiv x5 2)) x12 x13 x14)) else (hamperref05_First.l1 k x1 x3 x4 (IntKind.u64.wrap (Int.tdiv x5 2)) x12 x13 x14)))) else (if x1.length < 35184372088832 then (hamperref05_First.l0 k (x1 ++ [(Int.tmod x4 4294967296) % 4294967296]) x12 x13 (wrap64 (x14 + 1))) else (none))
end
def hamperref05_First.f (k : Nat)  : Option (List Int) := (some (([2, 3, 5, 7, 11, 13, 17, 19] : List Int) : List Int)).bind fun y124 => (hamperref05_First.l0 k ([] : List Int) y124 (y124.length : Int) 0)
theorem hamperref05_First.mono_l : ∀ k, (∀ y0 y1 y2 y3, LeO (hamperref05_First.l0 k y0 y1 y2 y3) (hamperref05_First.l0 (k + 1) y0 y1 y2 y3)) ∧ (∀ y0 y1 y2 y3 y4 y5 y6, LeO (hamperref05_First.l1 k y0 y1 y2 y3 y4 y5 y6) (hamperref05_First.l1 (k + 1) y0 y1 y2 y3 y4 y5 y6))
  | 0 => ⟨fun _ _ _ _ r h => by simp [hamperref05_First.l0] at h, fun _ _ _ _ _ _ _ r h => by simp [hamperref05_First.l1] at h⟩
  | k + 1 => by
    obtain ⟨ih0, ih1⟩ := hamperref05_First.mono_l k
    refine ⟨?_, ?_⟩
    · intro y0 y1 y2 y3
      unfold hamperref05_First.l0
      repeat' first
      | (with_reducible exact ih0 _ _ _ _)
      | (with_reducible exact ih1 _ _ _ _ _ _ _)
      | (with_reducible exact LeO.refl _)
      | (with_reducible exact LeO.none _)
      | (with_reducible refine LeO.ite ?_ ?_)
      | (with_reducible refine LeO.bind ?_ (fun _ => ?_))
      | exact ih0 _ _ _ _
      | exact ih1 _ _ _ _ _ _ _
      | exact LeO.none _
      | refine LeO.ite ?_ ?_
      | refine LeO.bind ?_ (fun _ => ?_)
    · intro y0 y1 y2 y3 y4 y5 y6
      unfold hamperref05_First.l1
      repeat' first
      | (with_reducible exact ih0 _ _ _ _)
      | (with_reducible exact ih1 _ _ _ _ _ _ _)
      | (with_reducible exact LeO.refl _)
      | (with_reducible exact LeO.none _)
      | (with_reducible refine LeO.ite ?_ ?_)
      | (with_reducible refine LeO.bind ?_ (fun _ => ?_))
      | exact ih0 _ _ _ _
      | exact ih1 _ _ _ _ _ _ _
      | exact LeO.none _
      | refine LeO.ite ?_ ?_
      | refine LeO.bind ?_ (fun _ => ?_)
theorem hamperref05_First.mono : ∀ k, LeO (hamperref05_First.f k ) (hamperref05_First.f (k + 1) ) := by
  intro  k
  obtain ⟨ih0, ih1⟩ := hamperref05_First.mono_l k
  unfold hamperref05_First.f
  repeat' first
      | (with_reducible exact ih0 _ _ _ _)
      | (with_reducible exact ih1 _ _ _ _ _ _ _)
      | (with_reducible exact LeO.refl _)
      | (with_reducible exact LeO.none _)
      | (with_reducible refine LeO.ite ?_ ?_)
      | (with_reducible refine LeO.bind ?_ (fun _ => ?_))
      | exact ih0 _ _ _ _
      | exact ih1 _ _ _ _ _ _ _
      | exact LeO.none _
      | refine LeO.ite ?_ ?_
      | refine LeO.bind ?_ (fun _ => ?_)
set_option maxHeartbeats 8000000 in
set_option maxRecDepth 100000 in
theorem hamperref05_First.calls (k : Nat)  (r : List Int) (w : World) (h : hamperref05_First.f k  = some r) :
    Calls Tryz.prog 72 #[] w fun e w' => ∃ v0_ : Value, e = .returned (v0_) ∧ Kd.R (Kd.int .u32) 99 w' w.heap.size (fun _ => True) v0_ r ∧ Below w.heap.size w w' := by
  have HB := Aside0.mk (Below.refl w.heap.size w)
  have H : ((some (([2, 3, 5, 7, 11, 13, 17, 19] : List Int) : List Int)).bind fun y124 => (hamperref05_First.l0 k ([] : List Int) y124 (y124.length : Int) 0)) = some r := h
  clear h
  obtain ⟨y124, hy124⟩ : ∃ y_ : List Int, y_ = (([2, 3, 5, 7, 11, 13, 17, 19] : List Int)) := ⟨_, rfl⟩
  replace H : (hamperref05_First.l0 k ([] : List Int) y124 (y124.length : Int) 0) = some r := by first | (rw [hy124]; with_reducible exact H) | (have H2_ := (Option.bind_some _ _).symm.trans H; rw [hy124]; with_reducible exact H2_) | (have H2_ := (Option.bind_some _ _).symm.trans H; with_reducible exact H2_) | with_reducible exact H | (rw [hy124]; exact H) | exact H
  have Ny124 := Aside0.mk hy124
  clear hy124
  have H' := Aside0.mk H
  clear H
  go_enter Tryz.func72, Tryz.ntmps72
  go_wp2_with (first | ((with_reducible refine gate_dst (N := 12) rfl ?_); refine Kd.R_lit (Kd.int .u64) _ 68 ?hg (N := 12) ?hd (xs := ([2, 3, 5, 7, 11, 13, 17, 19] : List Int)) (inner := [.int .u64 2, .int .u64 3, .int .u64 5, .int .u64 7, .int .u64 11, .int .u64 13, .int .u64 17, .int .u64 19]) (ok := fun _ => True) (okp := fun _ => True) ?hr ?hp (fun _ hk => hk) trivial (Below.refl _ _) (Nat.le_refl _) (by simp) ?_; (case hd => rfl); (case hg => rfl); (case hr => first | (go_simp; done) | (go_simp; rfl)); (case hp => exact (Reps.one (show Kd.M (Kd.int .u64) _ _ _ 2 [.int .u64 2] from rfl) (Reps.one (show Kd.M (Kd.int .u64) _ _ _ 3 [.int .u64 3] from rfl) (Reps.one (show Kd.M (Kd.int .u64) _ _ _ 5 [.int .u64 5] from rfl) (Reps.one (show Kd.M (Kd.int .u64) _ _ _ 7 [.int .u64 7] from rfl) (Reps.one (show Kd.M (Kd.int .u64) _ _ _ 11 [.int .u64 11] from rfl) (Reps.one (show Kd.M (Kd.int .u64) _ _ _ 13 [.int .u64 13] from rfl) (Reps.one (show Kd.M (Kd.int .u64) _ _ _ 17 [.int .u64 17] from rfl) (Reps.one (show Kd.M (Kd.int .u64) _ _ _ 19 [.int .u64 19] from rfl) (Reps.none _ _)))))))))); intro v125 w1 ho2 hb hg_ hnew_; clear hg_ hnew_; (first | rw [← Ny124.out] at ho2 | (simp only [Int.reduceToNat] at ho2; rw [← Ny124.out] at ho2)); have n0_ := Aside0.mk (Kd.R_lower ho2 (below_size (by repeat (first | (with_reducible first | exact HB.out | apply below_alloc | apply pw_below_drewN | apply below_drew1) | exact HB.out)))); have n1_ := Aside0.mk (below_step (by repeat (first | (with_reducible first | exact HB.out | apply below_alloc | apply pw_below_drewN | apply below_drew1) | exact HB.out)) hb); clear HB; have HO126 := n0_; have HB := n1_; clear n0_ n1_; clear hb ho2; obtain ⟨Ao3, co3, eo3⟩ := Kd.R_slice HO126.out; subst eo3))
  go_loopg [1, 14] k (fun kq v1 v14 w' => ∃ (x1_1 : List Int) (x14_1 : Int), v14 = .int .i64 x14_1 ∧ Aside0 (hamperref05_First.l0 kq x1_1 y124 (y124.length : Int) x14_1 = some r) ∧ Aside0 (kq ≤ k) ∧ Aside0 (Kd.R (Kd.int .u32) 99 w' w.heap.size (fun _ => True) v1 x1_1) ∧ Aside0 (Kd.R (Kd.int .u64) 68 w' w.heap.size (fun _ => True) (.slice Ao3 y124.length co3) y124) ∧ Aside0 (Below w.heap.size w w'))
  case atStart => exact ⟨(([] : List Int)), (0), (by first | rfl | (simp; done) | (simp [*]; done)), H', ⟨Nat.le_refl _⟩, ⟨by first | exact Kd.R_nil _ _ _ _ _ | exact Kd.N_nil _ _ _ _ _ | exact Kd.V_nil _ _ _ _ _ | exact Kd.Q_nil _ _ _ _ _ | exact Kd.S_nil _ _ _ _ _⟩, ⟨by (with_reducible repeat (first | apply Kd.R_alloc | apply Kd.R_drewN | apply Kd.R_drew)); exact HO126.out⟩, ⟨by repeat (first | (with_reducible first | exact HB.out | apply below_alloc | apply pw_below_drewN | apply below_drew1) | exact HB.out)⟩⟩
  case round =>
    clear H'
    try clear p2
    obtain ⟨x1_1, x14_1, rfl, HA, HK1, HO_1, HO_12, HB⟩ := hrel
    cases gk with
    | zero => exact absurd HA.out (by simp [hamperref05_First.l0])
    | succ k1 =>
      have H := HA.out
      clear HA
      simp only [hamperref05_First.l0] at H
      by_cases c4 : x14_1 < (y124.length : Int)
      · rw [if_pos c4] at H
        have c4b0 : decide (x14_1 < (y124.length : Int)) = true := decide_eq_true c4
        clear c4
        by_cases c5 : 0 ≤ x14_1
        · rw [if_pos c5] at H
          have c5b0 : decide (0 ≤ x14_1) = true := decide_eq_true c5
          clear c5
          by_cases c6 : x14_1 < (y124.length : Int)
          · rw [if_pos c6] at H
            have c6b0 : decide (x14_1 < (y124.length : Int)) = true := decide_eq_true c6
            clear c6
            have H' := Aside0.mk H
            clear H
            have p127 : 0 ≤ (x14_1 : Int) := of_decide_eq_true (by first | (with_reducible assumption) | assumption)
            have q127 : x14_1 < (y124.length : Int) := of_decide_eq_true (by first | (with_reducible assumption) | assumption)
            obtain ⟨ad127, e127, hx127_0⟩ := Kd.at_int (Kd.R_reads' HO_12.out).2.2 x14_1 p127 q127
            cases e127
            replace p127 := eq_true p127
            replace q127 := eq_true q127
            go_wp2
            go_loopg [4, 5] k1 (fun kq v4 v5 w' => ∃ (x4_2 : Int) (x5_2 : Int), v4 = .int .u64 x4_2 ∧ v5 = .int .u64 x5_2 ∧ Aside0 (hamperref05_First.l1 kq x1_1 (rd y124 x14_1) x4_2 x5_2 y124 (y124.length : Int) x14_1 = some r) ∧ Aside0 (kq ≤ k1) ∧ Aside0 (Kd.R (Kd.int .u32) 99 w' w.heap.size (fun _ => True) u1 x1_1) ∧ Aside0 (Kd.R (Kd.int .u64) 68 w' w.heap.size (fun _ => True) (.slice (some ad127) y124.length co3) y124) ∧ Aside0 (Below w.heap.size w w'))
            case atStart => exact ⟨(0), (34359738368), (by first | rfl | (simp; done) | (simp [*]; done)), (by first | rfl | (simp; done) | (simp [*]; done)), H', ⟨Nat.le_refl _⟩, ⟨by (with_reducible repeat (first | apply Kd.R_alloc | apply Kd.R_drewN | apply Kd.R_drew)); exact HO_1.out⟩, ⟨by (with_reducible repeat (first | apply Kd.R_alloc | apply Kd.R_drewN | apply Kd.R_drew)); exact HO_12.out⟩, ⟨by repeat (first | (with_reducible first | exact HB.out | apply below_alloc | apply pw_below_drewN | apply below_drew1) | exact HB.out)⟩⟩
            case round =>
              clear H'
              try clear p1
              try clear q1
              try clear hx1
              try clear p2
              try clear c4
              try clear c4b0
              try clear c5
              try clear c5b0
              try clear c6
              try clear c6b0
              try clear hx127_0
              try clear p127
              try clear p2
              try clear q127
              obtain ⟨x4_2, x5_2, rfl, rfl, HA, HK2, HO_1, HO_12, HB⟩ := hrel
              cases gk with
              | zero => exact absurd HA.out (by simp [hamperref05_First.l1])
              | succ k2 =>
                have H := HA.out
                clear HA
                simp only [hamperref05_First.l1] at H
                by_cases c7 : x5_2 > 0
                · rw [if_pos c7] at H
                  have c7b0 : decide (0 < x5_2) = true := decide_eq_true c7
                  clear c7
                  by_cases c8 : (IntKind.u64.wrap ((IntKind.u64.wrap ((Int.tmod (IntKind.u64.wrap (x4_2 + x5_2)) 4294967296) * (Int.tmod (IntKind.u64.wrap (x4_2 + x5_2)) 4294967296))) + (IntKind.u64.wrap ((IntKind.u64.wrap ((IntKind.u64.wrap (2 * ((IntKind.u64.wrap (x4_2 + x5_2)) / 4294967296))) * (Int.tmod (IntKind.u64.wrap (x4_2 + x5_2)) 4294967296))) * 4294967296)))) < (IntKind.u64.wrap ((Int.tmod (IntKind.u64.wrap (x4_2 + x5_2)) 4294967296) * (Int.tmod (IntKind.u64.wrap (x4_2 + x5_2)) 4294967296)))
                  · rw [if_pos c8] at H
                    have c8b0 : decide ((IntKind.u64.wrap ((IntKind.u64.wrap ((Int.tmod (IntKind.u64.wrap (x4_2 + x5_2)) 4294967296) * (Int.tmod (IntKind.u64.wrap (x4_2 + x5_2)) 4294967296))) + (IntKind.u64.wrap ((IntKind.u64.wrap ((IntKind.u64.wrap (2 * ((IntKind.u64.wrap (x4_2 + x5_2)) / 4294967296))) * (Int.tmod (IntKind.u64.wrap (x4_2 + x5_2)) 4294967296))) * 4294967296)))) < (IntKind.u64.wrap ((Int.tmod (IntKind.u64.wrap (x4_2 + x5_2)) 4294967296) * (Int.tmod (IntKind.u64.wrap (x4_2 + x5_2)) 4294967296)))) = true := decide_eq_true c8
                    clear c8
                    by_cases c9 : (IntKind.u64.wrap ((IntKind.u64.wrap ((IntKind.u64.wrap (((IntKind.u64.wrap (x4_2 + x5_2)) / 4294967296) * ((IntKind.u64.wrap (x4_2 + x5_2)) / 4294967296))) + ((IntKind.u64.wrap ((IntKind.u64.wrap (2 * ((IntKind.u64.wrap (x4_2 + x5_2)) / 4294967296))) * (Int.tmod (IntKind.u64.wrap (x4_2 + x5_2)) 4294967296))) / 4294967296))) + 1)) < (rd y124 x14_1)
                    · rw [if_pos c9] at H
                      have c9b0 : decide ((IntKind.u64.wrap ((IntKind.u64.wrap ((IntKind.u64.wrap (((IntKind.u64.wrap (x4_2 + x5_2)) / 4294967296) * ((IntKind.u64.wrap (x4_2 + x5_2)) / 4294967296))) + ((IntKind.u64.wrap ((IntKind.u64.wrap (2 * ((IntKind.u64.wrap (x4_2 + x5_2)) / 4294967296))) * (Int.tmod (IntKind.u64.wrap (x4_2 + x5_2)) 4294967296))) / 4294967296))) + 1)) < (rd y124 x14_1)) = true := decide_eq_true c9
                      clear c9
                      have H' := Aside0.mk H
                      clear H
                      go_wp2
                      go_roundg k2
                      case measure => have := HK1.out; have := HK2.out; omega
                      case rel => exact ⟨(IntKind.u64.wrap (x4_2 + x5_2)), (IntKind.u64.wrap (Int.tdiv x5_2 2)), (by first | rfl | (simp; done) | (simp [*]; done)), (by first | rfl | (simp; done) | (simp [*]; done)), H', ⟨by have := HK1.out; have := HK2.out; omega⟩, ⟨by (with_reducible repeat (first | apply Kd.R_alloc | apply Kd.R_drewN | apply Kd.R_drew)); exact HO_1.out⟩, ⟨by (with_reducible repeat (first | apply Kd.R_alloc | apply Kd.R_drewN | apply Kd.R_drew)); exact HO_12.out⟩, ⟨by repeat (first | (with_reducible first | exact HB.out | apply below_alloc | apply pw_below_drewN | apply below_drew1) | exact HB.out)⟩⟩
                    · rw [if_neg c9] at H
                      have c9b0 : decide ((IntKind.u64.wrap ((IntKind.u64.wrap ((IntKind.u64.wrap (((IntKind.u64.wrap (x4_2 + x5_2)) / 4294967296) * ((IntKind.u64.wrap (x4_2 + x5_2)) / 4294967296))) + ((IntKind.u64.wrap ((IntKind.u64.wrap (2 * ((IntKind.u64.wrap (x4_2 + x5_2)) / 4294967296))) * (Int.tmod (IntKind.u64.wrap (x4_2 + x5_2)) 4294967296))) / 4294967296))) + 1)) < (rd y124 x14_1)) = false := decide_eq_false c9
                      clear c9
                      by_cases c10 : (IntKind.u64.wrap ((IntKind.u64.wrap ((IntKind.u64.wrap (((IntKind.u64.wrap (x4_2 + x5_2)) / 4294967296) * ((IntKind.u64.wrap (x4_2 + x5_2)) / 4294967296))) + ((IntKind.u64.wrap ((IntKind.u64.wrap (2 * ((IntKind.u64.wrap (x4_2 + x5_2)) / 4294967296))) * (Int.tmod (IntKind.u64.wrap (x4_2 + x5_2)) 4294967296))) / 4294967296))) + 1)) = (rd y124 x14_1)
                      · rw [if_pos c10] at H
                        have c10b0 : ((IntKind.u64.wrap ((IntKind.u64.wrap ((IntKind.u64.wrap (((IntKind.u64.wrap (x4_2 + x5_2)) / 4294967296) * ((IntKind.u64.wrap (x4_2 + x5_2)) / 4294967296))) + ((IntKind.u64.wrap ((IntKind.u64.wrap (2 * ((IntKind.u64.wrap (x4_2 + x5_2)) / 4294967296))) * (Int.tmod (IntKind.u64.wrap (x4_2 + x5_2)) 4294967296))) / 4294967296))) + 1)) == (rd y124 x14_1)) = true := beq_iff_eq.mpr c10
                        have c10b1 : ((IntKind.u64.wrap ((IntKind.u64.wrap ((IntKind.u64.wrap (((IntKind.u64.wrap (x4_2 + x5_2)) / 4294967296) * ((IntKind.u64.wrap (x4_2 + x5_2)) / 4294967296))) + ((IntKind.u64.wrap ((IntKind.u64.wrap (2 * ((IntKind.u64.wrap (x4_2 + x5_2)) / 4294967296))) * (Int.tmod (IntKind.u64.wrap (x4_2 + x5_2)) 4294967296))) / 4294967296))) + 1)) != (rd y124 x14_1)) = false := bne_eq_false_iff_eq.mpr c10
                        clear c10
                        by_cases c11 : (IntKind.u64.wrap ((IntKind.u64.wrap ((Int.tmod (IntKind.u64.wrap (x4_2 + x5_2)) 4294967296) * (Int.tmod (IntKind.u64.wrap (x4_2 + x5_2)) 4294967296))) + (IntKind.u64.wrap ((IntKind.u64.wrap ((IntKind.u64.wrap (2 * ((IntKind.u64.wrap (x4_2 + x5_2)) / 4294967296))) * (Int.tmod (IntKind.u64.wrap (x4_2 + x5_2)) 4294967296))) * 4294967296)))) = 0
                        · rw [if_pos c11] at H
                          have c11b0 : ((IntKind.u64.wrap ((IntKind.u64.wrap ((Int.tmod (IntKind.u64.wrap (x4_2 + x5_2)) 4294967296) * (Int.tmod (IntKind.u64.wrap (x4_2 + x5_2)) 4294967296))) + (IntKind.u64.wrap ((IntKind.u64.wrap ((IntKind.u64.wrap (2 * ((IntKind.u64.wrap (x4_2 + x5_2)) / 4294967296))) * (Int.tmod (IntKind.u64.wrap (x4_2 + x5_2)) 4294967296))) * 4294967296)))) == 0) = true := beq_iff_eq.mpr c11
                          have c11b1 : ((IntKind.u64.wrap ((IntKind.u64.wrap ((Int.tmod (IntKind.u64.wrap (x4_2 + x5_2)) 4294967296) * (Int.tmod (IntKind.u64.wrap (x4_2 + x5_2)) 4294967296))) + (IntKind.u64.wrap ((IntKind.u64.wrap ((IntKind.u64.wrap (2 * ((IntKind.u64.wrap (x4_2 + x5_2)) / 4294967296))) * (Int.tmod (IntKind.u64.wrap (x4_2 + x5_2)) 4294967296))) * 4294967296)))) != 0) = false := bne_eq_false_iff_eq.mpr c11
                          clear c11
                          have H' := Aside0.mk H
                          clear H
                          go_wp2
                          go_roundg k2
                          case measure => have := HK1.out; have := HK2.out; omega
                          case rel => exact ⟨(IntKind.u64.wrap (x4_2 + x5_2)), (IntKind.u64.wrap (Int.tdiv x5_2 2)), (by first | rfl | (simp; done) | (simp [*]; done)), (by first | rfl | (simp; done) | (simp [*]; done)), H', ⟨by have := HK1.out; have := HK2.out; omega⟩, ⟨by (with_reducible repeat (first | apply Kd.R_alloc | apply Kd.R_drewN | apply Kd.R_drew)); exact HO_1.out⟩, ⟨by (with_reducible repeat (first | apply Kd.R_alloc | apply Kd.R_drewN | apply Kd.R_drew)); exact HO_12.out⟩, ⟨by repeat (first | (with_reducible first | exact HB.out | apply below_alloc | apply pw_below_drewN | apply below_drew1) | exact HB.out)⟩⟩
                        · rw [if_neg c11] at H
                          have c11b0 : ((IntKind.u64.wrap ((IntKind.u64.wrap ((Int.tmod (IntKind.u64.wrap (x4_2 + x5_2)) 4294967296) * (Int.tmod (IntKind.u64.wrap (x4_2 + x5_2)) 4294967296))) + (IntKind.u64.wrap ((IntKind.u64.wrap ((IntKind.u64.wrap (2 * ((IntKind.u64.wrap (x4_2 + x5_2)) / 4294967296))) * (Int.tmod (IntKind.u64.wrap (x4_2 + x5_2)) 4294967296))) * 4294967296)))) == 0) = false := beq_eq_false_iff_ne.mpr c11
                          have c11b1 : ((IntKind.u64.wrap ((IntKind.u64.wrap ((Int.tmod (IntKind.u64.wrap (x4_2 + x5_2)) 4294967296) * (Int.tmod (IntKind.u64.wrap (x4_2 + x5_2)) 4294967296))) + (IntKind.u64.wrap ((IntKind.u64.wrap ((IntKind.u64.wrap (2 * ((IntKind.u64.wrap (x4_2 + x5_2)) / 4294967296))) * (Int.tmod (IntKind.u64.wrap (x4_2 + x5_2)) 4294967296))) * 4294967296)))) != 0) = true := bne_iff_ne.mpr c11
                          have H' := Aside0.mk H
                          clear H
                          go_wp2
                          go_roundg k2
                          case measure => have := HK1.out; have := HK2.out; omega
                          case rel => exact ⟨(x4_2), (IntKind.u64.wrap (Int.tdiv x5_2 2)), (by first | rfl | (simp; done) | (simp [*]; done)), (by first | rfl | (simp; done) | (simp [*]; done)), H', ⟨by have := HK1.out; have := HK2.out; omega⟩, ⟨by (with_reducible repeat (first | apply Kd.R_alloc | apply Kd.R_drewN | apply Kd.R_drew)); exact HO_1.out⟩, ⟨by (with_reducible repeat (first | apply Kd.R_alloc | apply Kd.R_drewN | apply Kd.R_drew)); exact HO_12.out⟩, ⟨by repeat (first | (with_reducible first | exact HB.out | apply below_alloc | apply pw_below_drewN | apply below_drew1) | exact HB.out)⟩⟩
                      · rw [if_neg c10] at H
                        have c10b0 : ((IntKind.u64.wrap ((IntKind.u64.wrap ((IntKind.u64.wrap (((IntKind.u64.wrap (x4_2 + x5_2)) / 4294967296) * ((IntKind.u64.wrap (x4_2 + x5_2)) / 4294967296))) + ((IntKind.u64.wrap ((IntKind.u64.wrap (2 * ((IntKind.u64.wrap (x4_2 + x5_2)) / 4294967296))) * (Int.tmod (IntKind.u64.wrap (x4_2 + x5_2)) 4294967296))) / 4294967296))) + 1)) == (rd y124 x14_1)) = false := beq_eq_false_iff_ne.mpr c10
                        have c10b1 : ((IntKind.u64.wrap ((IntKind.u64.wrap ((IntKind.u64.wrap (((IntKind.u64.wrap (x4_2 + x5_2)) / 4294967296) * ((IntKind.u64.wrap (x4_2 + x5_2)) / 4294967296))) + ((IntKind.u64.wrap ((IntKind.u64.wrap (2 * ((IntKind.u64.wrap (x4_2 + x5_2)) / 4294967296))) * (Int.tmod (IntKind.u64.wrap (x4_2 + x5_2)) 4294967296))) / 4294967296))) + 1)) != (rd y124 x14_1)) = true := bne_iff_ne.mpr c10
                        have H' := Aside0.mk H
                        clear H
                        go_wp2
                        go_roundg k2
                        case measure => have := HK1.out; have := HK2.out; omega
                        case rel => exact ⟨(x4_2), (IntKind.u64.wrap (Int.tdiv x5_2 2)), (by first | rfl | (simp; done) | (simp [*]; done)), (by first | rfl | (simp; done) | (simp [*]; done)), H', ⟨by have := HK1.out; have := HK2.out; omega⟩, ⟨by (with_reducible repeat (first | apply Kd.R_alloc | apply Kd.R_drewN | apply Kd.R_drew)); exact HO_1.out⟩, ⟨by (with_reducible repeat (first | apply Kd.R_alloc | apply Kd.R_drewN | apply Kd.R_drew)); exact HO_12.out⟩, ⟨by repeat (first | (with_reducible first | exact HB.out | apply below_alloc | apply pw_below_drewN | apply below_drew1) | exact HB.out)⟩⟩
                  · rw [if_neg c8] at H
                    have c8b0 : decide ((IntKind.u64.wrap ((IntKind.u64.wrap ((Int.tmod (IntKind.u64.wrap (x4_2 + x5_2)) 4294967296) * (Int.tmod (IntKind.u64.wrap (x4_2 + x5_2)) 4294967296))) + (IntKind.u64.wrap ((IntKind.u64.wrap ((IntKind.u64.wrap (2 * ((IntKind.u64.wrap (x4_2 + x5_2)) / 4294967296))) * (Int.tmod (IntKind.u64.wrap (x4_2 + x5_2)) 4294967296))) * 4294967296)))) < (IntKind.u64.wrap ((Int.tmod (IntKind.u64.wrap (x4_2 + x5_2)) 4294967296) * (Int.tmod (IntKind.u64.wrap (x4_2 + x5_2)) 4294967296)))) = false := decide_eq_false c8
                    clear c8
                    by_cases c12 : (IntKind.u64.wrap ((IntKind.u64.wrap (((IntKind.u64.wrap (x4_2 + x5_2)) / 4294967296) * ((IntKind.u64.wrap (x4_2 + x5_2)) / 4294967296))) + ((IntKind.u64.wrap ((IntKind.u64.wrap (2 * ((IntKind.u64.wrap (x4_2 + x5_2)) / 4294967296))) * (Int.tmod (IntKind.u64.wrap (x4_2 + x5_2)) 4294967296))) / 4294967296))) < (rd y124 x14_1)
                    · rw [if_pos c12] at H
                      have c12b0 : decide ((IntKind.u64.wrap ((IntKind.u64.wrap (((IntKind.u64.wrap (x4_2 + x5_2)) / 4294967296) * ((IntKind.u64.wrap (x4_2 + x5_2)) / 4294967296))) + ((IntKind.u64.wrap ((IntKind.u64.wrap (2 * ((IntKind.u64.wrap (x4_2 + x5_2)) / 4294967296))) * (Int.tmod (IntKind.u64.wrap (x4_2 + x5_2)) 4294967296))) / 4294967296))) < (rd y124 x14_1)) = true := decide_eq_true c12
                      clear c12
                      have H' := Aside0.mk H
                      clear H
                      go_wp2
                      go_roundg k2
                      case measure => have := HK1.out; have := HK2.out; omega
                      case rel => exact ⟨(IntKind.u64.wrap (x4_2 + x5_2)), (IntKind.u64.wrap (Int.tdiv x5_2 2)), (by first | rfl | (simp; done) | (simp [*]; done)), (by first | rfl | (simp; done) | (simp [*]; done)), H', ⟨by have := HK1.out; have := HK2.out; omega⟩, ⟨by (with_reducible repeat (first | apply Kd.R_alloc | apply Kd.R_drewN | apply Kd.R_drew)); exact HO_1.out⟩, ⟨by (with_reducible repeat (first | apply Kd.R_alloc | apply Kd.R_drewN | apply Kd.R_drew)); exact HO_12.out⟩, ⟨by repeat (first | (with_reducible first | exact HB.out | apply below_alloc | apply pw_below_drewN | apply below_drew1) | exact HB.out)⟩⟩
                    · rw [if_neg c12] at H
                      have c12b0 : decide ((IntKind.u64.wrap ((IntKind.u64.wrap (((IntKind.u64.wrap (x4_2 + x5_2)) / 4294967296) * ((IntKind.u64.wrap (x4_2 + x5_2)) / 4294967296))) + ((IntKind.u64.wrap ((IntKind.u64.wrap (2 * ((IntKind.u64.wrap (x4_2 + x5_2)) / 4294967296))) * (Int.tmod (IntKind.u64.wrap (x4_2 + x5_2)) 4294967296))) / 4294967296))) < (rd y124 x14_1)) = false := decide_eq_false c12
                      clear c12
                      by_cases c13 : (IntKind.u64.wrap ((IntKind.u64.wrap (((IntKind.u64.wrap (x4_2 + x5_2)) / 4294967296) * ((IntKind.u64.wrap (x4_2 + x5_2)) / 4294967296))) + ((IntKind.u64.wrap ((IntKind.u64.wrap (2 * ((IntKind.u64.wrap (x4_2 + x5_2)) / 4294967296))) * (Int.tmod (IntKind.u64.wrap (x4_2 + x5_2)) 4294967296))) / 4294967296))) = (rd y124 x14_1)
                      · rw [if_pos c13] at H
                        have c13b0 : ((IntKind.u64.wrap ((IntKind.u64.wrap (((IntKind.u64.wrap (x4_2 + x5_2)) / 4294967296) * ((IntKind.u64.wrap (x4_2 + x5_2)) / 4294967296))) + ((IntKind.u64.wrap ((IntKind.u64.wrap (2 * ((IntKind.u64.wrap (x4_2 + x5_2)) / 4294967296))) * (Int.tmod (IntKind.u64.wrap (x4_2 + x5_2)) 4294967296))) / 4294967296))) == (rd y124 x14_1)) = true := beq_iff_eq.mpr c13
                        have c13b1 : ((IntKind.u64.wrap ((IntKind.u64.wrap (((IntKind.u64.wrap (x4_2 + x5_2)) / 4294967296) * ((IntKind.u64.wrap (x4_2 + x5_2)) / 4294967296))) + ((IntKind.u64.wrap ((IntKind.u64.wrap (2 * ((IntKind.u64.wrap (x4_2 + x5_2)) / 4294967296))) * (Int.tmod (IntKind.u64.wrap (x4_2 + x5_2)) 4294967296))) / 4294967296))) != (rd y124 x14_1)) = false := bne_eq_false_iff_eq.mpr c13
                        clear c13
                        by_cases c14 : (IntKind.u64.wrap ((IntKind.u64.wrap ((Int.tmod (IntKind.u64.wrap (x4_2 + x5_2)) 4294967296) * (Int.tmod (IntKind.u64.wrap (x4_2 + x5_2)) 4294967296))) + (IntKind.u64.wrap ((IntKind.u64.wrap ((IntKind.u64.wrap (2 * ((IntKind.u64.wrap (x4_2 + x5_2)) / 4294967296))) * (Int.tmod (IntKind.u64.wrap (x4_2 + x5_2)) 4294967296))) * 4294967296)))) = 0
                        · rw [if_pos c14] at H
                          have c14b0 : ((IntKind.u64.wrap ((IntKind.u64.wrap ((Int.tmod (IntKind.u64.wrap (x4_2 + x5_2)) 4294967296) * (Int.tmod (IntKind.u64.wrap (x4_2 + x5_2)) 4294967296))) + (IntKind.u64.wrap ((IntKind.u64.wrap ((IntKind.u64.wrap (2 * ((IntKind.u64.wrap (x4_2 + x5_2)) / 4294967296))) * (Int.tmod (IntKind.u64.wrap (x4_2 + x5_2)) 4294967296))) * 4294967296)))) == 0) = true := beq_iff_eq.mpr c14
                          have c14b1 : ((IntKind.u64.wrap ((IntKind.u64.wrap ((Int.tmod (IntKind.u64.wrap (x4_2 + x5_2)) 4294967296) * (Int.tmod (IntKind.u64.wrap (x4_2 + x5_2)) 4294967296))) + (IntKind.u64.wrap ((IntKind.u64.wrap ((IntKind.u64.wrap (2 * ((IntKind.u64.wrap (x4_2 + x5_2)) / 4294967296))) * (Int.tmod (IntKind.u64.wrap (x4_2 + x5_2)) 4294967296))) * 4294967296)))) != 0) = false := bne_eq_false_iff_eq.mpr c14
                          clear c14
                          have H' := Aside0.mk H
                          clear H
                          go_wp2
                          go_roundg k2
                          case measure => have := HK1.out; have := HK2.out; omega
                          case rel => exact ⟨(IntKind.u64.wrap (x4_2 + x5_2)), (IntKind.u64.wrap (Int.tdiv x5_2 2)), (by first | rfl | (simp; done) | (simp [*]; done)), (by first | rfl | (simp; done) | (simp [*]; done)), H', ⟨by have := HK1.out; have := HK2.out; omega⟩, ⟨by (with_reducible repeat (first | apply Kd.R_alloc | apply Kd.R_drewN | apply Kd.R_drew)); exact HO_1.out⟩, ⟨by (with_reducible repeat (first | apply Kd.R_alloc | apply Kd.R_drewN | apply Kd.R_drew)); exact HO_12.out⟩, ⟨by repeat (first | (with_reducible first | exact HB.out | apply below_alloc | apply pw_below_drewN | apply below_drew1) | exact HB.out)⟩⟩
                        · rw [if_neg c14] at H
                          have c14b0 : ((IntKind.u64.wrap ((IntKind.u64.wrap ((Int.tmod (IntKind.u64.wrap (x4_2 + x5_2)) 4294967296) * (Int.tmod (IntKind.u64.wrap (x4_2 + x5_2)) 4294967296))) + (IntKind.u64.wrap ((IntKind.u64.wrap ((IntKind.u64.wrap (2 * ((IntKind.u64.wrap (x4_2 + x5_2)) / 4294967296))) * (Int.tmod (IntKind.u64.wrap (x4_2 + x5_2)) 4294967296))) * 4294967296)))) == 0) = false := beq_eq_false_iff_ne.mpr c14
                          have c14b1 : ((IntKind.u64.wrap ((IntKind.u64.wrap ((Int.tmod (IntKind.u64.wrap (x4_2 + x5_2)) 4294967296) * (Int.tmod (IntKind.u64.wrap (x4_2 + x5_2)) 4294967296))) + (IntKind.u64.wrap ((IntKind.u64.wrap ((IntKind.u64.wrap (2 * ((IntKind.u64.wrap (x4_2 + x5_2)) / 4294967296))) * (Int.tmod (IntKind.u64.wrap (x4_2 + x5_2)) 4294967296))) * 4294967296)))) != 0) = true := bne_iff_ne.mpr c14
                          have H' := Aside0.mk H
                          clear H
                          go_wp2
                          go_roundg k2
                          case measure => have := HK1.out; have := HK2.out; omega
                          case rel => exact ⟨(x4_2), (IntKind.u64.wrap (Int.tdiv x5_2 2)), (by first | rfl | (simp; done) | (simp [*]; done)), (by first | rfl | (simp; done) | (simp [*]; done)), H', ⟨by have := HK1.out; have := HK2.out; omega⟩, ⟨by (with_reducible repeat (first | apply Kd.R_alloc | apply Kd.R_drewN | apply Kd.R_drew)); exact HO_1.out⟩, ⟨by (with_reducible repeat (first | apply Kd.R_alloc | apply Kd.R_drewN | apply Kd.R_drew)); exact HO_12.out⟩, ⟨by repeat (first | (with_reducible first | exact HB.out | apply below_alloc | apply pw_below_drewN | apply below_drew1) | exact HB.out)⟩⟩
                      · rw [if_neg c13] at H
                        have c13b0 : ((IntKind.u64.wrap ((IntKind.u64.wrap (((IntKind.u64.wrap (x4_2 + x5_2)) / 4294967296) * ((IntKind.u64.wrap (x4_2 + x5_2)) / 4294967296))) + ((IntKind.u64.wrap ((IntKind.u64.wrap (2 * ((IntKind.u64.wrap (x4_2 + x5_2)) / 4294967296))) * (Int.tmod (IntKind.u64.wrap (x4_2 + x5_2)) 4294967296))) / 4294967296))) == (rd y124 x14_1)) = false := beq_eq_false_iff_ne.mpr c13
                        have c13b1 : ((IntKind.u64.wrap ((IntKind.u64.wrap (((IntKind.u64.wrap (x4_2 + x5_2)) / 4294967296) * ((IntKind.u64.wrap (x4_2 + x5_2)) / 4294967296))) + ((IntKind.u64.wrap ((IntKind.u64.wrap (2 * ((IntKind.u64.wrap (x4_2 + x5_2)) / 4294967296))) * (Int.tmod (IntKind.u64.wrap (x4_2 + x5_2)) 4294967296))) / 4294967296))) != (rd y124 x14_1)) = true := bne_iff_ne.mpr c13
                        have H' := Aside0.mk H
                        clear H
                        go_wp2
                        go_roundg k2
                        case measure => have := HK1.out; have := HK2.out; omega
                        case rel => exact ⟨(x4_2), (IntKind.u64.wrap (Int.tdiv x5_2 2)), (by first | rfl | (simp; done) | (simp [*]; done)), (by first | rfl | (simp; done) | (simp [*]; done)), H', ⟨by have := HK1.out; have := HK2.out; omega⟩, ⟨by (with_reducible repeat (first | apply Kd.R_alloc | apply Kd.R_drewN | apply Kd.R_drew)); exact HO_1.out⟩, ⟨by (with_reducible repeat (first | apply Kd.R_alloc | apply Kd.R_drewN | apply Kd.R_drew)); exact HO_12.out⟩, ⟨by repeat (first | (with_reducible first | exact HB.out | apply below_alloc | apply pw_below_drewN | apply below_drew1) | exact HB.out)⟩⟩
                · rw [if_neg c7] at H
                  have c7b0 : decide (0 < x5_2) = false := decide_eq_false c7
                  clear c7
                  by_cases c15 : x1_1.length < 35184372088832
                  · rw [if_pos c15] at H
                    have LMc15 := Aside0.mk c15
                    clear c15
                    obtain ⟨y128, hy128⟩ : ∃ y_ : List Int, y_ = (x1_1 ++ [(Int.tmod x4_2 4294967296) % 4294967296]) := ⟨_, rfl⟩
                    replace H : (hamperref05_First.l0 k2 y128 y124 (y124.length : Int) (wrap64 (x14_1 + 1))) = some r := by first | (rw [hy128]; with_reducible exact H) | (have H2_ := (Option.bind_some _ _).symm.trans H; rw [hy128]; with_reducible exact H2_) | (have H2_ := (Option.bind_some _ _).symm.trans H; with_reducible exact H2_) | with_reducible exact H | (rw [hy128]; exact H) | exact H
                    have Ny128 := Aside0.mk hy128
                    clear hy128
                    have H' := Aside0.mk H
                    clear H
                    go_wp2_with (first | ((with_reducible refine gate_builtin (b := .append) (xs := #[.tmp 65, .tmp 69]) rfl ?_); at_builtin; refine Kd.R_append (Kd.int .u32) (w0 := w) w.heap.size rfl (.tmp 65) (.tmp 69) 104 99 (.int .u32 0) 4 rfl Tryz.underlying104 info99 rfl (by decide) (by omega) u1 x1_1 ((Int.tmod x4_2 4294967296) % 4294967296) [.int .u32 ((Int.tmod x4_2 4294967296) % 4294967296)] (fun _ => True) (fun _ => False) rfl rfl ?aP (fun _ hk => hk.elim) ?aF ?aO ?aB ?aS ?aL ?_; (case aP => exact rfl); (case aB => exact (by repeat (first | (with_reducible first | exact HB.out | apply below_alloc | apply pw_below_drewN | apply below_drew1) | exact HB.out))); (case aF => exact (fun _ _ => trivial)); (case aO => exact (by (with_reducible repeat (first | apply Kd.R_alloc | apply Kd.R_drewN | apply Kd.R_drew)); exact HO_1.out)); (case aS => exact (below_size (by repeat (first | (with_reducible first | exact HB.out | apply below_alloc | apply pw_below_drewN | apply below_drew1) | exact HB.out)))); (case aL => have := LMc15.out; omega); intro v129 w16 ho hb hg hat; rw [← Ny128.out] at ho; have n0_ := Aside0.mk (Kd.R_over' (by (with_reducible repeat (first | apply Kd.R_alloc | apply Kd.R_drewN | apply Kd.R_drew)); exact HO_12.out) (Kd.R_typed (by (with_reducible repeat (first | apply Kd.R_alloc | apply Kd.R_drewN | apply Kd.R_drew)); exact HO_1.out)) (by decide) hg); have n1_ := Aside0.mk (hb); have n2_ := Aside0.mk (ho); clear HO_12; clear HB; clear HO_1; have HO_12 := n0_; have HB := n1_; have HO130 := n2_; clear n0_ n1_ n2_; clear ho hb hg hat))
                    go_roundg k2
                    case measure => have := HK1.out; have := HK2.out; omega
                    case rel => exact ⟨(y128), (wrap64 (x14_1 + 1)), (by first | rfl | (simp; done) | (simp [*]; done)), H', ⟨by have := HK1.out; have := HK2.out; omega⟩, ⟨by (with_reducible repeat (first | apply Kd.R_alloc | apply Kd.R_drewN | apply Kd.R_drew)); exact HO130.out⟩, ⟨by (with_reducible repeat (first | apply Kd.R_alloc | apply Kd.R_drewN | apply Kd.R_drew)); exact HO_12.out⟩, ⟨by repeat (first | (with_reducible first | exact HB.out | apply below_alloc | apply pw_below_drewN | apply below_drew1) | exact HB.out)⟩⟩
                  · rw [if_neg c15] at H
                    exact absurd H (by simp)
          · rw [if_neg c6] at H
            exact absurd H (by simp)
        · rw [if_neg c5] at H
          exact absurd H (by simp)
      · rw [if_neg c4] at H
        have c4b0 : decide (x14_1 < (y124.length : Int)) = false := decide_eq_false c4
        clear c4
        obtain rfl := Option.some.inj H
        go_wp2
        go_ret
        exact ⟨_, by first | rfl | (simp [errW_none, errW_some] <;> rfl) | (simp [*, errW_none, errW_some] <;> rfl), by (with_reducible repeat (first | apply Kd.R_alloc | apply Kd.R_drewN | apply Kd.R_drew)); exact HO_1.out, by repeat (first | (with_reducible first | exact HB.out | apply below_alloc | apply pw_below_drewN | apply below_drew1) | exact HB.out)⟩

/-! ### hamperref05_places: function 73 -/
def hamperref05_places.f  : Option (List ByteArray) := some (([(⟨#[48, 49, 50, 51, 52, 53, 54, 55, 56, 57, 97, 98, 99, 100, 101, 102]⟩ : ByteArray), (⟨#[101, 97, 52, 56, 57, 102, 100, 54, 49, 99, 48, 50, 98, 55, 53, 51]⟩ : ByteArray), (⟨#[98, 56, 99, 48, 53, 50, 102, 100, 97, 101, 51, 54, 55, 49, 57, 52]⟩ : ByteArray), (⟨#[55, 57, 51, 49, 100, 99, 98, 101, 50, 54, 53, 97, 52, 48, 102, 56]⟩ : ByteArray), (⟨#[57, 48, 53, 55, 50, 52, 97, 102, 101, 49, 98, 99, 54, 56, 51, 100]⟩ : ByteArray), (⟨#[50, 99, 54, 97, 48, 98, 56, 51, 52, 100, 55, 53, 102, 101, 49, 57]⟩ : ByteArray), (⟨#[99, 53, 49, 102, 101, 100, 52, 97, 48, 55, 54, 51, 57, 50, 56, 98]⟩ : ByteArray), (⟨#[100, 98, 55, 101, 99, 49, 51, 57, 53, 48, 102, 52, 56, 54, 50, 97]⟩ : ByteArray), (⟨#[54, 102, 101, 57, 98, 51, 48, 56, 99, 50, 100, 55, 49, 52, 97, 53]⟩ : ByteArray), (⟨#[97, 50, 56, 52, 55, 54, 49, 53, 102, 98, 57, 101, 51, 99, 100, 48]⟩ : ByteArray)] : List ByteArray))
set_option maxHeartbeats 8000000 in
set_option maxRecDepth 100000 in
theorem hamperref05_places.calls  (r : List ByteArray) (w : World) (h : hamperref05_places.f  = some r) :
    Calls Tryz.prog 73 #[] w fun e w' => ∃ v0_ : Value, e = .returned (v0_) ∧ Kd.R Kd.string 9 w' w.heap.size (fun _ => True) v0_ r ∧ Below w.heap.size w w' := by
  have HB := Aside0.mk (Below.refl w.heap.size w)
  have H : (some (([(⟨#[48, 49, 50, 51, 52, 53, 54, 55, 56, 57, 97, 98, 99, 100, 101, 102]⟩ : ByteArray), (⟨#[101, 97, 52, 56, 57, 102, 100, 54, 49, 99, 48, 50, 98, 55, 53, 51]⟩ : ByteArray), (⟨#[98, 56, 99, 48, 53, 50, 102, 100, 97, 101, 51, 54, 55, 49, 57, 52]⟩ : ByteArray), (⟨#[55, 57, 51, 49, 100, 99, 98, 101, 50, 54, 53, 97, 52, 48, 102, 56]⟩ : ByteArray), (⟨#[57, 48, 53, 55, 50, 52, 97, 102, 101, 49, 98, 99, 54, 56, 51, 100]⟩ : ByteArray), (⟨#[50, 99, 54, 97, 48, 98, 56, 51, 52, 100, 55, 53, 102, 101, 49, 57]⟩ : ByteArray), (⟨#[99, 53, 49, 102, 101, 100, 52, 97, 48, 55, 54, 51, 57, 50, 56, 98]⟩ : ByteArray), (⟨#[100, 98, 55, 101, 99, 49, 51, 57, 53, 48, 102, 52, 56, 54, 50, 97]⟩ : ByteArray), (⟨#[54, 102, 101, 57, 98, 51, 48, 56, 99, 50, 100, 55, 49, 52, 97, 53]⟩ : ByteArray), (⟨#[97, 50, 56, 52, 55, 54, 49, 53, 102, 98, 57, 101, 51, 99, 100, 48]⟩ : ByteArray)] : List ByteArray))) = some r := h
  clear h
  obtain ⟨y131, hy131⟩ : ∃ y_ : List ByteArray, y_ = (([(⟨#[48, 49, 50, 51, 52, 53, 54, 55, 56, 57, 97, 98, 99, 100, 101, 102]⟩ : ByteArray), (⟨#[101, 97, 52, 56, 57, 102, 100, 54, 49, 99, 48, 50, 98, 55, 53, 51]⟩ : ByteArray), (⟨#[98, 56, 99, 48, 53, 50, 102, 100, 97, 101, 51, 54, 55, 49, 57, 52]⟩ : ByteArray), (⟨#[55, 57, 51, 49, 100, 99, 98, 101, 50, 54, 53, 97, 52, 48, 102, 56]⟩ : ByteArray), (⟨#[57, 48, 53, 55, 50, 52, 97, 102, 101, 49, 98, 99, 54, 56, 51, 100]⟩ : ByteArray), (⟨#[50, 99, 54, 97, 48, 98, 56, 51, 52, 100, 55, 53, 102, 101, 49, 57]⟩ : ByteArray), (⟨#[99, 53, 49, 102, 101, 100, 52, 97, 48, 55, 54, 51, 57, 50, 56, 98]⟩ : ByteArray), (⟨#[100, 98, 55, 101, 99, 49, 51, 57, 53, 48, 102, 52, 56, 54, 50, 97]⟩ : ByteArray), (⟨#[54, 102, 101, 57, 98, 51, 48, 56, 99, 50, 100, 55, 49, 52, 97, 53]⟩ : ByteArray), (⟨#[97, 50, 56, 52, 55, 54, 49, 53, 102, 98, 57, 101, 51, 99, 100, 48]⟩ : ByteArray)] : List ByteArray)) := ⟨_, rfl⟩
  replace H : (some y131) = some r := by first | (rw [hy131]; with_reducible exact H) | (have H2_ := (Option.bind_some _ _).symm.trans H; rw [hy131]; with_reducible exact H2_) | (have H2_ := (Option.bind_some _ _).symm.trans H; with_reducible exact H2_) | with_reducible exact H | (rw [hy131]; exact H) | exact H
  have Ny131 := Aside0.mk hy131
  clear hy131
  obtain rfl := Option.some.inj H
  go_enter Tryz.func73, Tryz.ntmps73
  go_wp2_with (first | ((with_reducible refine gate_dst (N := 1) rfl ?_); refine Kd.R_lit Kd.string _ 9 ?hg (N := 1) ?hd (xs := ([(⟨#[48, 49, 50, 51, 52, 53, 54, 55, 56, 57, 97, 98, 99, 100, 101, 102]⟩ : ByteArray), (⟨#[101, 97, 52, 56, 57, 102, 100, 54, 49, 99, 48, 50, 98, 55, 53, 51]⟩ : ByteArray), (⟨#[98, 56, 99, 48, 53, 50, 102, 100, 97, 101, 51, 54, 55, 49, 57, 52]⟩ : ByteArray), (⟨#[55, 57, 51, 49, 100, 99, 98, 101, 50, 54, 53, 97, 52, 48, 102, 56]⟩ : ByteArray), (⟨#[57, 48, 53, 55, 50, 52, 97, 102, 101, 49, 98, 99, 54, 56, 51, 100]⟩ : ByteArray), (⟨#[50, 99, 54, 97, 48, 98, 56, 51, 52, 100, 55, 53, 102, 101, 49, 57]⟩ : ByteArray), (⟨#[99, 53, 49, 102, 101, 100, 52, 97, 48, 55, 54, 51, 57, 50, 56, 98]⟩ : ByteArray), (⟨#[100, 98, 55, 101, 99, 49, 51, 57, 53, 48, 102, 52, 56, 54, 50, 97]⟩ : ByteArray), (⟨#[54, 102, 101, 57, 98, 51, 48, 56, 99, 50, 100, 55, 49, 52, 97, 53]⟩ : ByteArray), (⟨#[97, 50, 56, 52, 55, 54, 49, 53, 102, 98, 57, 101, 51, 99, 100, 48]⟩ : ByteArray)] : List ByteArray)) (inner := [.string (⟨#[48, 49, 50, 51, 52, 53, 54, 55, 56, 57, 97, 98, 99, 100, 101, 102]⟩ : ByteArray), .string (⟨#[101, 97, 52, 56, 57, 102, 100, 54, 49, 99, 48, 50, 98, 55, 53, 51]⟩ : ByteArray), .string (⟨#[98, 56, 99, 48, 53, 50, 102, 100, 97, 101, 51, 54, 55, 49, 57, 52]⟩ : ByteArray), .string (⟨#[55, 57, 51, 49, 100, 99, 98, 101, 50, 54, 53, 97, 52, 48, 102, 56]⟩ : ByteArray), .string (⟨#[57, 48, 53, 55, 50, 52, 97, 102, 101, 49, 98, 99, 54, 56, 51, 100]⟩ : ByteArray), .string (⟨#[50, 99, 54, 97, 48, 98, 56, 51, 52, 100, 55, 53, 102, 101, 49, 57]⟩ : ByteArray), .string (⟨#[99, 53, 49, 102, 101, 100, 52, 97, 48, 55, 54, 51, 57, 50, 56, 98]⟩ : ByteArray), .string (⟨#[100, 98, 55, 101, 99, 49, 51, 57, 53, 48, 102, 52, 56, 54, 50, 97]⟩ : ByteArray), .string (⟨#[54, 102, 101, 57, 98, 51, 48, 56, 99, 50, 100, 55, 49, 52, 97, 53]⟩ : ByteArray), .string (⟨#[97, 50, 56, 52, 55, 54, 49, 53, 102, 98, 57, 101, 51, 99, 100, 48]⟩ : ByteArray)]) (ok := fun _ => True) (okp := fun _ => True) ?hr ?hp (fun _ hk => hk) trivial (Below.refl _ _) (Nat.le_refl _) (by simp) ?_; (case hd => rfl); (case hg => rfl); (case hr => first | (go_simp; done) | (go_simp; rfl)); (case hp => exact (Reps.one (show Kd.M Kd.string _ _ _ (⟨#[48, 49, 50, 51, 52, 53, 54, 55, 56, 57, 97, 98, 99, 100, 101, 102]⟩ : ByteArray) [.string (⟨#[48, 49, 50, 51, 52, 53, 54, 55, 56, 57, 97, 98, 99, 100, 101, 102]⟩ : ByteArray)] from rfl) (Reps.one (show Kd.M Kd.string _ _ _ (⟨#[101, 97, 52, 56, 57, 102, 100, 54, 49, 99, 48, 50, 98, 55, 53, 51]⟩ : ByteArray) [.string (⟨#[101, 97, 52, 56, 57, 102, 100, 54, 49, 99, 48, 50, 98, 55, 53, 51]⟩ : ByteArray)] from rfl) (Reps.one (show Kd.M Kd.string _ _ _ (⟨#[98, 56, 99, 48, 53, 50, 102, 100, 97, 101, 51, 54, 55, 49, 57, 52]⟩ : ByteArray) [.string (⟨#[98, 56, 99, 48, 53, 50, 102, 100, 97, 101, 51, 54, 55, 49, 57, 52]⟩ : ByteArray)] from rfl) (Reps.one (show Kd.M Kd.string _ _ _ (⟨#[55, 57, 51, 49, 100, 99, 98, 101, 50, 54, 53, 97, 52, 48, 102, 56]⟩ : ByteArray) [.string (⟨#[55, 57, 51, 49, 100, 99, 98, 101, 50, 54, 53, 97, 52, 48, 102, 56]⟩ : ByteArray)] from rfl) (Reps.one (show Kd.M Kd.string _ _ _ (⟨#[57, 48, 53, 55, 50, 52, 97, 102, 101, 49, 98, 99, 54, 56, 51, 100]⟩ : ByteArray) [.string (⟨#[57, 48, 53, 55, 50, 52, 97, 102, 101, 49, 98, 99, 54, 56, 51, 100]⟩ : ByteArray)] from rfl) (Reps.one (show Kd.M Kd.string _ _ _ (⟨#[50, 99, 54, 97, 48, 98, 56, 51, 52, 100, 55, 53, 102, 101, 49, 57]⟩ : ByteArray) [.string (⟨#[50, 99, 54, 97, 48, 98, 56, 51, 52, 100, 55, 53, 102, 101, 49, 57]⟩ : ByteArray)] from rfl) (Reps.one (show Kd.M Kd.string _ _ _ (⟨#[99, 53, 49, 102, 101, 100, 52, 97, 48, 55, 54, 51, 57, 50, 56, 98]⟩ : ByteArray) [.string (⟨#[99, 53, 49, 102, 101, 100, 52, 97, 48, 55, 54, 51, 57, 50, 56, 98]⟩ : ByteArray)] from rfl) (Reps.one (show Kd.M Kd.string _ _ _ (⟨#[100, 98, 55, 101, 99, 49, 51, 57, 53, 48, 102, 52, 56, 54, 50, 97]⟩ : ByteArray) [.string (⟨#[100, 98, 55, 101, 99, 49, 51, 57, 53, 48, 102, 52, 56, 54, 50, 97]⟩ : ByteArray)] from rfl) (Reps.one (show Kd.M Kd.string _ _ _ (⟨#[54, 102, 101, 57, 98, 51, 48, 56, 99, 50, 100, 55, 49, 52, 97, 53]⟩ : ByteArray) [.string (⟨#[54, 102, 101, 57, 98, 51, 48, 56, 99, 50, 100, 55, 49, 52, 97, 53]⟩ : ByteArray)] from rfl) (Reps.one (show Kd.M Kd.string _ _ _ (⟨#[97, 50, 56, 52, 55, 54, 49, 53, 102, 98, 57, 101, 51, 99, 100, 48]⟩ : ByteArray) [.string (⟨#[97, 50, 56, 52, 55, 54, 49, 53, 102, 98, 57, 101, 51, 99, 100, 48]⟩ : ByteArray)] from rfl) (Reps.none _ _)))))))))))); intro v132 w1 ho2 hb hg_ hnew_; clear hg_ hnew_; (first | rw [← Ny131.out] at ho2 | (simp only [Int.reduceToNat] at ho2; rw [← Ny131.out] at ho2)); have n0_ := Aside0.mk (Kd.R_lower ho2 (below_size (by repeat (first | (with_reducible first | exact HB.out | apply below_alloc | apply pw_below_drewN | apply below_drew1) | exact HB.out)))); have n1_ := Aside0.mk (below_step (by repeat (first | (with_reducible first | exact HB.out | apply below_alloc | apply pw_below_drewN | apply below_drew1) | exact HB.out)) hb); clear HB; have HO133 := n0_; have HB := n1_; clear n0_ n1_; clear hb ho2))
  go_ret
  exact ⟨_, by first | rfl | (simp [errW_none, errW_some] <;> rfl) | (simp [*, errW_none, errW_some] <;> rfl), by (with_reducible repeat (first | apply Kd.R_alloc | apply Kd.R_drewN | apply Kd.R_drew)); exact HO133.out, by repeat (first | (with_reducible first | exact HB.out | apply below_alloc | apply pw_below_drewN | apply below_drew1) | exact HB.out)⟩

/-! ### hamperref05_place: function 75 -/
def hamperref05_place.f (a0 : Int) : Option (Int) := if a0 ≥ 97 then (some (((a0 - 97) % 256) + 10)) else (some ((a0 - 48) % 256))
set_option maxHeartbeats 8000000 in
set_option maxRecDepth 100000 in
theorem hamperref05_place.calls (a0 : Int) (r : Int) (w : World) (h : hamperref05_place.f a0 = some r) :
    Calls Tryz.prog 75 #[.int .u8 a0] w fun e w' => e = .returned (.int .i64 r) ∧ Drawn0 w w' := by
  have H : (if a0 ≥ 97 then (some (((a0 - 97) % 256) + 10)) else (some ((a0 - 48) % 256))) = some r := h
  clear h
  by_cases c2 : a0 ≥ 97
  · rw [if_pos c2] at H
    have c2b0 : decide (97 ≤ a0) = true := decide_eq_true c2
    clear c2
    obtain rfl := Option.some.inj H
    go_enter Tryz.func75, Tryz.ntmps75
    go_wp2
    go_ret
    exact ⟨by first | rfl | (simp; done) | (simp [*]; done), by repeat (first | exact Drawn0.refl _ | apply Drawn0.step)⟩
  · rw [if_neg c2] at H
    have c2b0 : decide (97 ≤ a0) = false := decide_eq_false c2
    clear c2
    obtain rfl := Option.some.inj H
    go_enter Tryz.func75, Tryz.ntmps75
    go_wp2
    go_ret
    exact ⟨by first | rfl | (simp; done) | (simp [*]; done), by repeat (first | exact Drawn0.refl _ | apply Drawn0.step)⟩

/-! ### bits_RotateLeft32: function 112 -/
def bits_RotateLeft32.f (a0 : Int) (a1 : Int) : Option (Int) := if 0 ≤ (Go.bits .and .u64 (IntKind.u64.wrap (a1)) 31) then (if 0 ≤ (IntKind.u64.wrap (32 - (Go.bits .and .u64 (IntKind.u64.wrap (a1)) 31))) then (some (Go.bits .or .u32 (shl .u32 a0 (Go.bits .and .u64 (IntKind.u64.wrap (a1)) 31)) (shr .u32 a0 (IntKind.u64.wrap (32 - (Go.bits .and .u64 (IntKind.u64.wrap (a1)) 31)))))) else (none)) else (none)
set_option maxHeartbeats 8000000 in
set_option maxRecDepth 100000 in
theorem bits_RotateLeft32.calls (a0 : Int) (a1 : Int) (r : Int) (w : World) (h : bits_RotateLeft32.f a0 a1 = some r) :
    Calls Tryz.prog 112 #[.int .u32 a0, .int .i64 a1] w fun e w' => e = .returned (.int .u32 r) ∧ Drawn0 w w' := by
  have H : (if 0 ≤ (Go.bits .and .u64 (IntKind.u64.wrap (a1)) 31) then (if 0 ≤ (IntKind.u64.wrap (32 - (Go.bits .and .u64 (IntKind.u64.wrap (a1)) 31))) then (some (Go.bits .or .u32 (shl .u32 a0 (Go.bits .and .u64 (IntKind.u64.wrap (a1)) 31)) (shr .u32 a0 (IntKind.u64.wrap (32 - (Go.bits .and .u64 (IntKind.u64.wrap (a1)) 31)))))) else (none)) else (none)) = some r := h
  clear h
  obtain ⟨ji3, hji3⟩ : ∃ j_ : Int, (Go.bits .and .u64 (IntKind.u64.wrap (a1)) 31) = j_ := ⟨_, rfl⟩
  replace H : (if 0 ≤ (ji3) then (if 0 ≤ (IntKind.u64.wrap (32 - (ji3))) then (some (Go.bits .or .u32 (shl .u32 a0 (ji3)) (shr .u32 a0 (IntKind.u64.wrap (32 - (ji3)))))) else (none)) else (none)) = some r := by first | (rw [hji3] at H; exact H) | (simp only [hji3] at H ⊢; exact H)
  by_cases c4 : 0 ≤ (ji3)
  · rw [if_pos c4] at H
    have c4b0 := eq_true c4
    have c4b1 : decide (0 ≤ (ji3)) = true := decide_eq_true c4
    clear c4
    obtain ⟨ji5, hji5⟩ : ∃ j_ : Int, (shl .u32 a0 (ji3)) = j_ := ⟨_, rfl⟩
    replace H : (if 0 ≤ (IntKind.u64.wrap (32 - (ji3))) then (some (Go.bits .or .u32 (ji5) (shr .u32 a0 (IntKind.u64.wrap (32 - (ji3)))))) else (none)) = some r := by first | (rw [hji5] at H; exact H) | (simp only [hji5] at H ⊢; exact H)
    have hji5_ : (IntKind.u32.wrap (a0 * 2 ^ min (ji3).toNat 32)) = ji5 := hji5
    have hji5z : (ji3) ≤ 32 → (IntKind.u32.wrap (a0 * 2 ^ (ji3).toNat)) = ji5 := shl_small hji5
    obtain ⟨ji6, hji6⟩ : ∃ j_ : Int, (IntKind.u64.wrap (32 - (ji3))) = j_ := ⟨_, rfl⟩
    replace H : (if 0 ≤ (ji6) then (some (Go.bits .or .u32 (ji5) (shr .u32 a0 (ji6)))) else (none)) = some r := by first | (rw [hji6] at H; exact H) | (simp only [hji6] at H ⊢; exact H)
    by_cases c7 : 0 ≤ (ji6)
    · rw [if_pos c7] at H
      have c7b0 := eq_true c7
      have c7b1 : decide (0 ≤ (ji6)) = true := decide_eq_true c7
      clear c7
      obtain ⟨ji8, hji8⟩ : ∃ j_ : Int, (shr .u32 a0 (ji6)) = j_ := ⟨_, rfl⟩
      replace H : (some (Go.bits .or .u32 (ji5) (ji8))) = some r := by first | (rw [hji8] at H; exact H) | (simp only [hji8] at H ⊢; exact H)
      have hji8_ : (a0 / 2 ^ min (ji6).toNat 32) = ji8 := hji8
      have hji8z : (ji6) ≤ 32 → (a0 / 2 ^ (ji6).toNat) = ji8 := shr_small hji8
      obtain rfl := Option.some.inj H
      go_enter Tryz.func112, Tryz.ntmps112
      go_wp2
      go_ret
      exact ⟨by first | rfl | (simp; done) | (simp only [← hji3, ← hji5, ← hji6, ← hji8] <;> (first | rfl | simp)) | (simp [*]; done), by repeat (first | exact Drawn0.refl _ | apply Drawn0.step)⟩
    · rw [if_neg c7] at H
      exact absurd H (by simp)
  · rw [if_neg c4] at H
    exact absurd H (by simp)

end Go.Proofs.YtnnkenbcdepafaaGreatDoor.B
