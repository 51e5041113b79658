/- The walks of strings.Cut at a dot, and of strings.IndexByte: nothing that lay there is changed. -/
import Derived.Test.YtnnkenbcdepafaaGreatDoorH1
import Derived.Test.YtnnkenbcdepafaaGreatDoorHQ
import Derived.RegionTactic
import Derived.ChangeAlike
import Derived.Deep.QuietTactic
import Derived.BigQuiet
namespace Go.Proofs.YtnnkenbcdepafaaGreatDoor.H
open Go.RowKit Go.Proofs.YtnnkenbcdepafaaGreatDoorW.PrintWords Go.Proofs.YtnnkenbcdepafaaGreatDoorW.PrintLast Go.Proofs.YtnnkenbcdepafaaGreatDoorW.PrintMore
set_option linter.unusedVariables false
set_option linter.unusedSimpArgs false

set_option maxHeartbeats 4000000 in
set_option maxRecDepth 100000 in
theorem liteCut (s : ByteArray) (w : World) (hs : s.size ≤ 140737488355328) :
    Calls Tryz.prog 39 #[.string s, .string ⟨#[46]⟩] w fun e w' => e = .returned (.tuple #[.string (cutDot s).1, .string (cutDot s).2.1, .bool (cutDot s).2.2]) ∧ Below w.heap.size w w' := by
  by_cases h : Lib.indexByte s.data.toList 46 < 0
  · have e : cutDot s = (s, ⟨#[]⟩, false) := by unfold cutDot; rw [if_pos h]
    rw [e]
    obtain ⟨o, ho⟩ : ∃ o, Lib.indexByte s.data.toList 46 = o := ⟨_, rfl⟩
    have HC := Aside0.mk (show ∀ W, Calls Tryz.prog 62 #[.string s, .string ⟨#[46]⟩] W fun e w' => e = .returned (.int .i64 o) ∧ w' = W from fun W => by rw [← ho]; exact Tryz.stringslite_Index_one s 46 W)
    rw [ho] at h
    clear ho e
    go_enter Tryz.func39, Tryz.ntmps39
    go_wp2_with (first | (go_at_call 62; refine (HC.out _).mono ?_; rintro e w' ⟨rfl, rfl⟩))
    go_ret3
    exact ⟨rfl, Below.refl _ _⟩
  · have hlt : (Lib.indexByte s.data.toList 46).toNat < s.size := by
      have := (Lib.indexByte_some (l := s.data.toList) (c := 46) (o := (Lib.indexByte s.data.toList 46).toNat) (by omega)).1
      obtain ⟨h1, _⟩ := List.getElem?_eq_some_iff.1 this
      rw [data_length] at h1
      exact h1
    have e : cutDot s = (s.extract 0 (Lib.indexByte s.data.toList 46).toNat, s.extract ((Lib.indexByte s.data.toList 46).toNat + 1) s.size, true) := by unfold cutDot; rw [if_neg h]
    rw [e]
    obtain ⟨o, ho⟩ : ∃ o, (Lib.indexByte s.data.toList 46).toNat = o := ⟨_, rfl⟩
    have HC := Aside0.mk (show ∀ W, Calls Tryz.prog 62 #[.string s, .string ⟨#[46]⟩] W fun e w' => e = .returned (.int .i64 (o : Int)) ∧ w' = W from fun W => by
      rw [show (o : Int) = Lib.indexByte s.data.toList 46 by omega]; exact Tryz.stringslite_Index_one s 46 W)
    rw [ho] at hlt ⊢
    clear ho e h
    have hw1 : IntKind.i64.wrap ((o : Int) + 1) = (o : Int) + 1 := IntWalk.i64_in _ (by omega)
    have hb0 : (0 : Int) ≤ (o : Int) := by omega
    have hb1 : (o : Int) ≤ (s.size : Int) := by omega
    have hb2 : (0 : Int) ≤ (o : Int) + 1 := by omega
    have hb3 : (o : Int) + 1 ≤ (s.size : Int) := by omega
    have hb4 : ((o : Int) + 1).toNat = o + 1 := by omega
    go_enter Tryz.func39, Tryz.ntmps39
    go_wp2_with (first | (go_at_call 62; refine (HC.out _).mono ?_; rintro e w' ⟨rfl, rfl⟩))
    go_quiet (fail)
    go_wp2
    go_ret3
    exact ⟨by simp, pw_below_drewN (Below.refl _ _) _⟩

set_option maxHeartbeats 4000000 in
set_option maxRecDepth 100000 in
theorem stringsCut (s : ByteArray) (w : World) (hs : s.size ≤ 140737488355328) :
    Calls Tryz.prog 19 #[.string s, .string ⟨#[46]⟩] w fun e w' => e = .returned (.tuple #[.string (cutDot s).1, .string (cutDot s).2.1, .bool (cutDot s).2.2]) ∧ Below w.heap.size w w' := by
  have HC := Aside0.mk (liteCut s w hs)
  obtain ⟨x, hx⟩ : ∃ x, cutDot s = x := ⟨_, rfl⟩
  rw [hx] at HC ⊢
  clear hx
  obtain ⟨x1, x2, x3⟩ := x
  go_enter Tryz.func19, Tryz.ntmps19
  go_wp2_with (first | (go_at_call 39; refine HC.out.mono ?_; rintro e w' ⟨rfl, hb⟩))
  go_ret3
  exact ⟨rfl, hb⟩
end Go.Proofs.YtnnkenbcdepafaaGreatDoor.H
