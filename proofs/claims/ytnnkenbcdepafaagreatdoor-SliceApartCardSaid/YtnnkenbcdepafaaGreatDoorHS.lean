/- Plain words for places, shapes and names: what package slice answers, over numbers and lists, no program in sight. -/
import Derived.Lib.ItoaNum
import Derived.Lib.ItoaLen
import Derived.Lib.AtoiAll
namespace Go.Proofs.YtnnkenbcdepafaaGreatDoor.H
set_option linter.unusedVariables false

/-- A letter that may stand in a base: a to z, 0 to 9, _. -/
def okByte (c : UInt8) : Bool := (decide (97 ≤ c.toNat) && decide (c.toNat ≤ 122)) || (decide (48 ≤ c.toNat) && decide (c.toNat ≤ 57)) || decide (c.toNat = 95)
def shapeB (d r s m : Int) : Bool := decide (1 ≤ d ∧ d ≤ 64 ∧ 0 ≤ r ∧ r ≤ 32 ∧ 2 ≤ s ∧ s ≤ 512 ∧ Int.tmod s 2 = 0 ∧ 0 ≤ m ∧ m ≤ 32)
def placeB (b : ByteArray) (i k d r s m : Int) : Bool :=
  shapeB d r s m && decide (1 ≤ b.size ∧ b.size ≤ 60 ∧ 1 ≤ k ∧ k + m ≤ 96 ∧ 0 ≤ i ∧ i < k + m) && b.data.toList.all okByte

theorem shapeB_iff {d r s m : Int} : shapeB d r s m = true ↔ 1 ≤ d ∧ d ≤ 64 ∧ 0 ≤ r ∧ r ≤ 32 ∧ 2 ≤ s ∧ s ≤ 512 ∧ Int.tmod s 2 = 0 ∧ 0 ≤ m ∧ m ≤ 32 := by
  unfold shapeB; exact decide_eq_true_iff
theorem placeB_iff {b : ByteArray} {i k d r s m : Int} : placeB b i k d r s m = true ↔ shapeB d r s m = true ∧ (1 ≤ b.size ∧ b.size ≤ 60 ∧ 1 ≤ k ∧ k + m ≤ 96 ∧ 0 ≤ i ∧ i < k + m) ∧ b.data.toList.all okByte = true := by
  unfold placeB; rw [Bool.and_eq_true, Bool.and_eq_true, decide_eq_true_iff, and_assoc]

/-- A place's numbers, as its name says them; the letters ahead of them. -/
def nums (i k d r s m : Int) (j : Nat) : Int := match j with | 0 => d | 1 => r | 2 => s | 3 => m | 4 => k | _ => i
def letter (j : Nat) : UInt8 := match j with | 0 => 100 | 1 => 114 | 2 => 115 | 3 => 109 | 4 => 107 | _ => 118
/-- The first j numbers of a name, behind its base and dot. -/
def nameTo (b : List UInt8) (f : Nat → Int) : Nat → List UInt8
  | 0 => b ++ [46]
  | j + 1 => nameTo b f j ++ (letter j :: Lib.itoa (f j))
/-- A place's name. -/
def nameB (b : ByteArray) (i k d r s m : Int) : ByteArray := ⟨(nameTo b.data.toList (nums i k d r s m) 6).toArray⟩

theorem nameTo_length (b : List UInt8) (f : Nat → Int) (hf : ∀ j, -9223372036854775808 ≤ f j ∧ f j ≤ 9223372036854775807) : ∀ j, (nameTo b f j).length ≤ b.length + 1 + 22 * j
  | 0 => by simp [nameTo]
  | j + 1 => by
    have h := nameTo_length b f hf j
    have h2 := Lib.itoa_length_le (f j) (hf j).1 (hf j).2
    rw [nameTo, List.length_append, List.length_cons]
    omega
end Go.Proofs.YtnnkenbcdepafaaGreatDoor.H
