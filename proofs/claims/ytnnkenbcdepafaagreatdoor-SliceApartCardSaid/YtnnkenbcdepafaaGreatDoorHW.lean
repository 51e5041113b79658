/- The examples: what the contracts' functions say of them. -/
import Derived.Test.YtnnkenbcdepafaaGreatDoorA
namespace Go.Proofs.YtnnkenbcdepafaaGreatDoor.H
open Go.RowKit Go.Proofs.YtnnkenbcdepafaaGreatDoorW.PrintWords Go.Proofs.YtnnkenbcdepafaaGreatDoor.B Go.Proofs.YtnnkenbcdepafaaGreatDoor.A
set_option linter.unusedVariables false

def exName : ByteArray := ⟨#[98, 111, 120, 46, 100, 50, 114, 49, 115, 52, 109, 49, 107, 50, 118, 48]⟩
def exLong : ByteArray := ⟨#[98, 111, 120, 46, 100, 48, 50, 114, 49, 115, 52, 109, 49, 107, 50, 118, 48]⟩
def exBox : ByteArray := ⟨#[98, 111, 120]⟩
theorem ex_cut0 : slice_Cut.f ⟨#[]⟩ 2 1 4 1 = some ([[⟨#[0, 0, 0, 0]⟩, ⟨#[0, 0, 0, 0]⟩]], 0) := by kernel_rfl
theorem ex_cut1 : slice_Cut.f ⟨#[120]⟩ 2 1 4 1 = some ([[⟨#[0, 0, 0, 0]⟩, ⟨#[0, 0, 0, 1]⟩], [⟨#[120, 0, 0, 0]⟩, ⟨#[0, 0, 0, 0]⟩]], 0) := by kernel_rfl
theorem ex_join : slice_Join.f [[⟨#[0, 0, 0, 0]⟩, ⟨#[0, 0, 0, 1]⟩], [⟨#[120, 0, 0, 0]⟩, ⟨#[0, 0, 0, 0]⟩]] 2 1 4 1 = some (⟨#[120]⟩, 0) := by kernel_rfl
theorem ex_place : placeB exBox 0 2 2 1 4 1 = true := by decide +kernel
theorem ex_nameB : nameB exBox 0 2 2 1 4 1 = exName := by
  refine ba_ext ?_
  show nameTo exBox.data.toList (nums 0 2 2 1 4 1) 6 = exName.data.toList
  have e : ∀ j, Lib.itoa (nums 0 2 2 1 4 1 j) = dd (nums 0 2 2 1 4 1 j).toNat := fun j => itoa_dd _ (nums_small ex_place j).1 (nums_small ex_place j).2
  simp only [nameTo, e]
  decide +kernel
theorem ex_good : Good exName exBox 0 2 2 1 4 1 := ⟨ex_place, ex_nameB⟩
theorem ex_name : slice_Name.f exBox 0 2 2 1 4 1 = some (exName, 0) := by
  unfold slice_Name.f
  rw [if_pos (by decide +kernel), if_pos ex_place, ex_nameB]
theorem ex_parse : slice_Parse.f exName = some (exBox, 0, 2, 2, 1, 4, 1, 0) := by
  unfold slice_Parse.f
  rw [if_pos (by decide +kernel), parseB_some ex_good]
theorem ex_not : ∀ b i k d r s m, ¬ Good exLong b i k d r s m := by
  intro b i k d r s m hg
  obtain ⟨h1, h2, _⟩ := inv_start exLong (fun _ => 0) b i k d r s m hg
  obtain ⟨e1, e2, _⟩ := round_tail _ (nums_small hg.1) _ 0 (by decide) h2
  have hd := nums_small hg.1 0
  have h3 : endOf (cutDot exLong).2.1 0 = 3 := by decide +kernel
  rw [h3] at e1
  have h4 : (Lib.itoa (nums i k d r s m 0)).length = 2 := by omega
  rw [h4] at e2
  have h5 : ((cutDot exLong).2.1.extract 1 (1 + 2)).data.toList = [48, 50] := by decide +kernel
  rw [h5] at e2
  have h6 := atoi_itoa _ hd.1 hd.2
  rw [← e2] at h6
  have h7 : atoiL [48, 50] = some 2 := by decide +kernel
  rw [h7] at h6
  rw [← Option.some.inj h6, itoa_dd 2 (by decide) (by decide)] at e2
  revert e2
  decide +kernel
theorem ex_parse2 : slice_Parse.f exLong = some (⟨#[]⟩, 0, 0, 0, 0, 0, 0, 4) := by
  unfold slice_Parse.f
  rw [if_pos (by decide +kernel), parseB_none ex_not]
theorem awake_true : hamperlaw26_awake.f = some true := by
  unfold hamperlaw26_awake.f
  rw [ex_cut0, Option.bind_some, ex_cut1, Option.bind_some]
  simp only []
  rw [ex_join, Option.bind_some]
  rw [show (⟨#[98, 111, 120]⟩ : ByteArray) = exBox from rfl, ex_name, Option.bind_some]
  rw [show (⟨#[98, 111, 120, 46, 100, 50, 114, 49, 115, 52, 109, 49, 107, 50, 118, 48]⟩ : ByteArray) = exName from rfl, ex_parse, Option.bind_some]
  rw [show (⟨#[98, 111, 120, 46, 100, 48, 50, 114, 49, 115, 52, 109, 49, 107, 50, 118, 48]⟩ : ByteArray) = exLong from rfl, ex_parse2, Option.bind_some]
  have z1 : (rdOf ByteArray.empty (rd_L1 [[⟨#[0, 0, 0, 0]⟩, ⟨#[0, 0, 0, 1]⟩], [⟨#[120, 0, 0, 0]⟩, ⟨#[0, 0, 0, 0]⟩]] 1) 0).toList = ([120, 0, 0, 0] : List UInt8) := by rw [Lib.toList_data]; kernel_rfl
  have z2 : (⟨#[120]⟩ : ByteArray).toList = ([120] : List UInt8) := by rw [Lib.toList_data]
  have z3 : exName.toList = ([98, 111, 120, 46, 100, 50, 114, 49, 115, 52, 109, 49, 107, 50, 118, 48] : List UInt8) := by rw [Lib.toList_data]; rfl
  have z4 : exBox.toList = ([98, 111, 120] : List UInt8) := by rw [Lib.toList_data]; rfl
  have z5 : (rd_L1 [[⟨#[0, 0, 0, 0]⟩, ⟨#[0, 0, 0, 1]⟩], [⟨#[120, 0, 0, 0]⟩, ⟨#[0, 0, 0, 0]⟩]] 1).length = 2 := by kernel_rfl
  simp only [z1, z2, z3, z4, z5]
  decide +kernel
end Go.Proofs.YtnnkenbcdepafaaGreatDoor.H
