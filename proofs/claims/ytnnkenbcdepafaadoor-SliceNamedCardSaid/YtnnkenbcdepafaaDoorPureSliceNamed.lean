/- The law SliceNamed over plain words: Parse of Name is the place, Name of Parse the name. -/
import Derived.Test.YtnnkenbcdepafaaDoorL4
import Derived.Test.YtnnkenbcdepafaaDoorHW
namespace Go.Proofs.YtnnkenbcdepafaaDoor.H
open Go.RowKit Go.Proofs.YtnnkenbcdepafaaDoorW.PrintWords Go.Proofs.YtnnkenbcdepafaaDoor.B Go.Proofs.YtnnkenbcdepafaaDoor.A Go.Proofs.YtnnkenbcdepafaaDoor.L
set_option linter.unusedVariables false

theorem nameB_size {b : ByteArray} {i k d r s m : Int} (h : placeB b i k d r s m = true) : (nameB b i k d r s m).size ≤ 1000 := by
  have hp := placeB_iff.1 h
  have hs := nums_small h
  have hl := nameTo_length b.data.toList (nums i k d r s m) (fun j => by have := hs j; omega) 6
  have e : b.data.toList.length = b.size := (Lib.size_eq b).symm
  show (nameTo b.data.toList (nums i k d r s m) 6).toArray.size ≤ 1000
  rw [List.size_toArray]
  omega
theorem named_back (k : Nat) (name : ByteArray) (hn : name.size ≤ 300) : hamperlaw26_SliceNamed.j1 (k + 1) name = some true := by
  simp only [hamperlaw26_SliceNamed.j1]
  unfold slice_Parse.f
  rw [if_pos (by omega), Option.bind_some]
  by_cases h : ∃ p : ByteArray × Int × Int × Int × Int × Int × Int, Good name p.1 p.2.1 p.2.2.1 p.2.2.2.1 p.2.2.2.2.1 p.2.2.2.2.2.1 p.2.2.2.2.2.2
  · obtain ⟨⟨b, i, kk, d, r, s, m⟩, hg⟩ := h
    simp only at hg
    rw [parseB_some hg]
    have hp := placeB_iff.1 hg.1
    have hs := shapeB_iff.1 hp.1
    simp only [if_true]
    unfold slice_Name.f slice_Place.f
    rw [if_pos (by omega), if_pos hg.1, Option.bind_some, hg.2]
    simp [hg.1]
    omega
  · have hb : parseB name = (⟨#[]⟩, 0, 0, 0, 0, 0, 0, 4) := parseB_none fun b i kk d r s m hg => h ⟨(b, i, kk, d, r, s, m), hg⟩
    rw [hb]
    have e : (⟨#[]⟩ : ByteArray).toList = [] := by rw [Lib.toList_data]
    simp [e]
theorem pure_sliceNamed (b : ByteArray) (i k d r s m : Int) (name : ByteArray) (hi : -9223372036854775808 ≤ i ∧ i ≤ 9223372036854775807) (hk : -9223372036854775808 ≤ k ∧ k ≤ 9223372036854775807) :
    ∃ n, hamperlaw26_SliceNamed.f n b i k d r s m name = some true := by
  refine ⟨2, ?_⟩
  have hno : hamperlaw26_SliceNamed.j0 2 name true b i k d r s m = some true := by
    simp only [hamperlaw26_SliceNamed.j0]
    rw [if_pos trivial, awake_true]
    rfl
  unfold hamperlaw26_SliceNamed.f
  by_cases h1 : (b.size : Int) > 300
  · rw [if_pos h1, hno]
  · rw [if_neg h1]
    by_cases h2 : (name.size : Int) > 300
    · rw [if_pos h2, hno]
    · rw [if_neg h2, awake_true, Option.bind_some]
      have hb := named_back 0 name (by omega)
      have hN : slice_Name.f b i k d r s m = some (if placeB b i k d r s m = true then (nameB b i k d r s m, 0) else (⟨#[]⟩, 1)) := by
        unfold slice_Name.f
        rw [if_pos ⟨hi, hk, by omega⟩]
      have hP : slice_Place.f b i k d r s m = some (placeB b i k d r s m) := by
        unfold slice_Place.f
        rw [if_pos ⟨hi, hk, by omega⟩]
      simp only [hamperlaw26_SliceNamed.j0]
      rw [if_neg (by simp), hN, hP, Option.bind_some, Option.bind_some]
      by_cases hp : placeB b i k d r s m = true
      · rw [if_pos hp, hp]
        rw [if_neg (by simp), if_pos rfl]
        have hsz := nameB_size hp
        unfold slice_Parse.f
        rw [if_pos (by simp only; omega), Option.bind_some]
        simp only
        rw [parseB_some ⟨hp, rfl⟩, if_pos rfl]
        rw [if_neg (by simp)]
        exact hb
      · rw [if_neg hp]
        have hp' : placeB b i k d r s m = false := by simpa using hp
        rw [hp', if_neg (by simp), if_neg (by simp)]
        exact hb
end Go.Proofs.YtnnkenbcdepafaaDoor.H
