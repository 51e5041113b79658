/- Volumes joined: over numbers and lists, no program in sight. -/
import Derived.Test.YtnnkenbcdepafaaGreatDoorHCS
import Derived.Lib.Join
import Derived.Lib.TrimByte
namespace Go.Proofs.YtnnkenbcdepafaaGreatDoor.H
set_option linter.unusedVariables false

/-- The bytes of rows, one behind the other. -/
def rowsL (rows : List ByteArray) : List UInt8 := (rows.map (·.data.toList)).flatten
/-- The bytes of volumes. -/
def bytesL (vs : List (List ByteArray)) : List UInt8 := (vs.map rowsL).flatten
/-- All volumes are d rows of s bytes. -/
def shapedB (vs : List (List ByteArray)) (d s : Int) : Bool := vs.all fun rows => decide ((rows.length : Int) = d) && !(rows.any fun row => decide ((row.size : Int) ≠ s))
/-- The number that the first k bytes say. -/
def numTo (l : List UInt8) : Nat → Nat
  | 0 => 0
  | k + 1 => numTo l k * 256 + (l.getD k 0).toNat
def streamL (vs : List (List ByteArray)) : List UInt8 := ((bytesL vs).drop 8).take (numTo (bytesL vs) 8)
def restL (vs : List (List ByteArray)) : List UInt8 := (bytesL vs).drop (8 + numTo (bytesL vs) 8)
/-- The volumes are the cut of something. -/
def joinOk (vs : List (List ByteArray)) (d r s m : Int) : Bool :=
  shapedB vs d s && decide (8 ≤ (bytesL vs).length ∧ numTo (bytesL vs) 8 ≤ (bytesL vs).length - 8) && decide (countB (streamL vs).length d r s m = ((vs.length : Int), 0)) && (restL vs).all (· == 0)
/-- Join's answer. -/
def joinB (vs : List (List ByteArray)) (d r s m : Int) : ByteArray × Int :=
  if shapeB d r s m = true then (if joinOk vs d r s m = true then (⟨(streamL vs).toArray⟩, 0) else (⟨#[]⟩, 4)) else (⟨#[]⟩, 1)

theorem join_empty (l : List (List UInt8)) : Lib.join l [] = l.flatten := by
  unfold Lib.join
  induction l with
  | nil => rfl
  | cons x l ih =>
    cases l with
    | nil => simp [List.intercalate]
    | cons y l => simp [List.intercalate, List.intersperse] at ih ⊢; exact ih
theorem bytesL_snoc (l : List (List ByteArray)) (rows : List ByteArray) : bytesL (l ++ [rows]) = bytesL l ++ rowsL rows := by
  simp [bytesL]
theorem rowsL_length {rows : List ByteArray} {S : Nat} (h : ∀ row ∈ rows, row.size = S) : (rowsL rows).length = rows.length * S := by
  unfold rowsL
  induction rows with
  | nil => simp
  | cons x l ih =>
    have h1 := ih (fun y hy => h y (List.mem_cons_of_mem _ hy))
    have h2 : x.data.toList.length = S := by rw [← Lib.size_eq]; exact h x List.mem_cons_self
    simp only [List.map_cons, List.flatten_cons, List.length_append, List.length_cons, h1, h2, Nat.add_mul]
    omega
theorem any_size {rows : List ByteArray} {S : Nat} (h : (rows.any fun row => decide ((row.size : Int) ≠ (S : Int))) = false) : ∀ row ∈ rows, row.size = S := by
  intro row hrow
  have := List.any_eq_false.1 h row hrow
  simp at this
  omega
theorem bytesL_length {vs : List (List ByteArray)} {D S : Nat} (h : shapedB vs D S = true) : (bytesL vs).length = vs.length * (D * S) := by
  unfold shapedB at h
  unfold bytesL
  induction vs with
  | nil => simp
  | cons x l ih =>
    rw [List.all_cons, Bool.and_eq_true, Bool.and_eq_true] at h
    obtain ⟨⟨h1, h2⟩, h3⟩ := h
    have h4 := ih h3
    have h5 := rowsL_length (S := S) (any_size (rows := x) (by simpa using h2))
    have h6 : x.length = D := by have := of_decide_eq_true h1; omega
    simp only [List.map_cons, List.flatten_cons, List.length_append, List.length_cons, h4, h5, h6, Nat.add_mul]
    omega
theorem shapedB_take {vs : List (List ByteArray)} {d s : Int} {i : Nat} (hi : i < vs.length) (h : shapedB (vs.take i) d s = true) :
    shapedB (vs.take (i + 1)) d s = (decide (((vs.getD i []).length : Int) = d) && !((vs.getD i []).any fun row => decide ((row.size : Int) ≠ s))) := by
  have e : vs.take (i + 1) = vs.take i ++ [vs.getD i []] := by
    rw [List.take_add_one]
    simp [List.getD_eq_getElem?_getD, List.getElem?_eq_getElem hi]
  unfold shapedB at h ⊢
  rw [e, List.all_append, h]
  simp
theorem shapedB_stop {vs : List (List ByteArray)} {d s : Int} {i : Nat} (h : shapedB (vs.take i) d s = false) : shapedB vs d s = false := by
  unfold shapedB at h ⊢
  have : vs = vs.take i ++ vs.drop i := (List.take_append_drop i vs).symm
  rw [this, List.all_append, h]
  rfl
theorem bytesL_take {vs : List (List ByteArray)} {i : Nat} (hi : i < vs.length) : bytesL (vs.take i) ++ rowsL (vs.getD i []) = bytesL (vs.take (i + 1)) := by
  rw [← bytesL_snoc]
  congr 1
  rw [List.take_add_one]
  simp [List.getD_eq_getElem?_getD, List.getElem?_eq_getElem hi]
theorem numTo_lt (l : List UInt8) (k : Nat) : numTo l k < 256 ^ k := by
  induction k with
  | zero => simp [numTo]
  | succ k ih =>
    have := (l.getD k 0).toNat_lt
    rw [numTo, Nat.pow_succ]
    omega
theorem numTo_bound (l : List UInt8) (k : Nat) (hk : k ≤ 7) : numTo l k < 72057594037927936 := Nat.lt_of_lt_of_le (numTo_lt l k) (Nat.le_trans (Nat.pow_le_pow_right (by decide) hk) (by decide))
theorem dropWhile_nil (p : UInt8 → Bool) (l : List UInt8) : l.dropWhile p = [] ↔ ∀ x ∈ l, p x = true := by
  induction l with
  | nil => simp
  | cons y l ih =>
    rw [List.dropWhile_cons]
    by_cases h : p y = true
    · rw [if_pos h, ih]
      simp [h]
    · rw [if_neg h]
      simp [h]
theorem trim_empty (l : List UInt8) : (Lib.trimB l 0 = []) ↔ (l.all (· == 0) = true) := by
  unfold Lib.trimB Lib.trimLeftB Lib.trimRightB
  constructor
  · intro h
    rw [List.all_eq_true]
    intro x hx
    rw [dropWhile_nil] at h
    by_cases hq : (l.reverse.dropWhile (· == 0)) = []
    · rw [dropWhile_nil] at hq
      exact hq x (List.mem_reverse.2 hx)
    · exfalso
      have h1 := List.head_mem hq
      have h2 := h _ (List.mem_reverse.2 h1)
      have h3 := List.head_dropWhile_not (p := fun x : UInt8 => x == 0) hq
      rw [h2] at h3
      cases h3
  · intro h
    rw [List.all_eq_true] at h
    have : l.reverse.dropWhile (· == 0) = [] := by
      rw [dropWhile_nil]
      intro x hx
      exact h x (List.mem_reverse.1 hx)
    rw [this]
    rfl
end Go.Proofs.YtnnkenbcdepafaaGreatDoor.H
