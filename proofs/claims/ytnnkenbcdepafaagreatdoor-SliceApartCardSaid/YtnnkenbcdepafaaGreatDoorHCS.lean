/- A stream cut, and joined again: over numbers and lists, no program in sight. -/
import Derived.Test.YtnnkenbcdepafaaGreatDoorHQ
namespace Go.Proofs.YtnnkenbcdepafaaGreatDoor.H
set_option linter.unusedVariables false

/-- How many volumes: the least number, at least 1, for which there is room; and the error. -/
def countB (n d r s m : Int) : Int × Int := if shapeB d r s m = true ∧ 0 ≤ n then (if (n + 7 + d * s) / (d * s) ≤ 96 - m then ((n + 7 + d * s) / (d * s), 0) else (0, 40)) else (0, 1)

/-- A number in 8 bytes, the highest first. -/
def eightL (n : Nat) : List UInt8 := [UInt8.ofNat (n / 72057594037927936), UInt8.ofNat (n / 281474976710656), UInt8.ofNat (n / 1099511627776), UInt8.ofNat (n / 4294967296), UInt8.ofNat (n / 16777216), UInt8.ofNat (n / 65536), UInt8.ofNat (n / 256), UInt8.ofNat n]
/-- All bytes that are cut. -/
def allL (stream : List UInt8) (total : Nat) : List UInt8 := eightL stream.length ++ stream ++ List.replicate (total - (8 + stream.length)) 0
def rowL (all : List UInt8) (s q : Nat) : ByteArray := ⟨((all.drop (q * s)).take s).toArray⟩
def volTo (all : List UInt8) (d s v i : Nat) : List ByteArray := (List.range i).map fun j => rowL all s (v * d + j)
def volsTo (all : List UInt8) (d s v : Nat) : List (List ByteArray) := (List.range v).map fun j => volTo all d s j d
def cutB (stream : ByteArray) (d r s m : Int) : List (List ByteArray) × Int :=
  if (countB stream.size d r s m).2 = 0 then (volsTo (allL stream.data.toList ((countB stream.size d r s m).1.toNat * d.toNat * s.toNat)) d.toNat s.toNat (countB stream.size d r s m).1.toNat, 0) else ([], (countB stream.size d r s m).2)

theorem volTo_snoc (all : List UInt8) (d s v i : Nat) : volTo all d s v (i + 1) = volTo all d s v i ++ [rowL all s (v * d + i)] := by
  simp [volTo, List.range_succ]
theorem volsTo_snoc (all : List UInt8) (d s v : Nat) : volsTo all d s (v + 1) = volsTo all d s v ++ [volTo all d s v d] := by
  simp [volsTo, List.range_succ]
theorem volTo_length (all : List UInt8) (d s v i : Nat) : (volTo all d s v i).length = i := by simp [volTo]
theorem volsTo_length (all : List UInt8) (d s v : Nat) : (volsTo all d s v).length = v := by simp [volsTo]
theorem eightL_length (n : Nat) : (eightL n).length = 8 := rfl
theorem allL_length (stream : List UInt8) (total : Nat) (h : 8 + stream.length ≤ total) : (allL stream total).length = total := by
  unfold allL
  rw [List.length_append, List.length_append, List.length_replicate, eightL_length]
  omega

/-- What is known where there is room. -/
theorem countB_ok {n d r s m : Int} (h : (countB n d r s m).2 = 0) : shapeB d r s m = true ∧ 0 ≤ n ∧ 1 ≤ (countB n d r s m).1 ∧ (countB n d r s m).1 ≤ 96 - m ∧ (countB n d r s m).1 = (n + 7 + d * s) / (d * s) ∧ n + 8 ≤ (countB n d r s m).1 * (d * s) := by
  unfold countB at h ⊢
  split
  · rename_i hc
    rw [if_pos hc] at h
    obtain ⟨hs, hn⟩ := hc
    have hsh := shapeB_iff.1 hs
    split
    · rename_i hk
      have hone : 2 ≤ d * s := by
        have := Int.mul_le_mul (a := 1) (b := 2) (c := d) (d := s) (by omega) (by omega) (by omega) (by omega)
        omega
      obtain ⟨one, hone'⟩ : ∃ one, d * s = one := ⟨_, rfl⟩
      rw [hone'] at hone hk ⊢
      have e1 := Int.mul_ediv_add_emod (n + 7 + one) one
      have e2 := Int.emod_lt_of_pos (n + 7 + one) (b := one) (by omega)
      have e3 := Int.emod_nonneg (n + 7 + one) (b := one) (by omega)
      refine ⟨hs, hn, ?_, hk, rfl, ?_⟩
      · exact (Int.le_ediv_iff_mul_le (by omega)).2 (by omega)
      · show n + 8 ≤ (n + 7 + one) / one * one
        rw [Int.mul_comm]
        omega
    · rename_i hk
      rw [if_neg hk] at h
      cases h
  · rename_i hc
    rw [if_neg hc] at h
    cases h
/-- The place of a row lies in what is cut. -/
theorem row_room {d s k v i : Nat} (hv : v < k) (hi : i < d) : (v * d + i) * s + s ≤ k * d * s := by
  have h1 : v * d + i + 1 ≤ k * d := by
    have : (v + 1) * d ≤ k * d := Nat.mul_le_mul_right d hv
    rw [Nat.add_mul] at this
    omega
  have h2 : (v * d + i + 1) * s ≤ k * d * s := Nat.mul_le_mul_right s h1
  rw [Nat.add_mul (v * d + i) 1 s] at h2
  omega
end Go.Proofs.YtnnkenbcdepafaaGreatDoor.H
