/- BLAKE2s over plain words of 32 bits, block by block; no program in sight. The constants of package blake, as its functions hand them back: the places of each round, the places of the numbers that are mixed. The first numbers of BLAKE2s, as package blake reckons them: bit by bit, the greatest whose square is at most a prime times 2^64. Four numbers mixed with two others, in the row that is handed over by pointer: package blake's mix. -/
import Derived.Laws.BitsAllLaws
import Derived.Test.YtnnkenbcdepafaaGreatDoorB0
import Derived.Deep.WholeRow
import Derived.Deep.MidRow
import Derived.Laws.Rows
import Derived.Test.YtnnkenbcdepafaaGreatDoorSh
import Derived.Test.YtnnkenbcdepafaaGreatDoorB

namespace Go.Proofs.YtnnkenbcdepafaaGreatDoor.K
open Go
set_option linter.unusedVariables false

def mixL : List (List Nat) := [[0, 4, 8, 12], [1, 5, 9, 13], [2, 6, 10, 14], [3, 7, 11, 15], [0, 5, 10, 15], [1, 6, 11, 12], [2, 7, 8, 13], [3, 4, 9, 14]]
def rowsL : List (List Nat) := [[0, 1, 2, 3, 4, 5, 6, 7, 8, 9, 10, 11, 12, 13, 14, 15], [14, 10, 4, 8, 9, 15, 13, 6, 1, 12, 0, 2, 11, 7, 5, 3], [11, 8, 12, 0, 5, 2, 15, 13, 10, 14, 3, 6, 7, 1, 9, 4], [7, 9, 3, 1, 13, 12, 11, 14, 2, 6, 5, 10, 4, 0, 15, 8], [9, 0, 5, 7, 2, 4, 10, 15, 14, 1, 11, 12, 6, 8, 3, 13],
  [2, 12, 6, 10, 0, 11, 8, 3, 4, 13, 7, 5, 15, 14, 1, 9], [12, 5, 1, 15, 14, 13, 4, 10, 0, 7, 6, 3, 9, 2, 8, 11], [13, 11, 7, 14, 12, 1, 3, 9, 5, 0, 15, 4, 8, 6, 2, 10], [6, 15, 14, 9, 11, 3, 0, 8, 12, 2, 13, 7, 1, 4, 10, 5], [10, 2, 8, 4, 7, 6, 1, 5, 15, 11, 9, 14, 3, 12, 13, 0]]
def ivU : List UInt32 := [1779033703, 3144134277, 1013904242, 2773480762, 1359893119, 2600822924, 528734635, 1541459225]

def rotr (x n : UInt32) : UInt32 := (x >>> n) ||| (x <<< (32 - n))
/-- The four numbers after one of the two half steps: x added, turned by p and q. -/
def half (s : UInt32 × UInt32 × UInt32 × UInt32) (x p q : UInt32) : UInt32 × UInt32 × UInt32 × UInt32 :=
  let a := s.1 + (s.2.1 + x)
  let d := rotr (s.2.2.2 ^^^ a) p
  let c := s.2.2.1 + d
  let b := rotr (s.2.1 ^^^ c) q
  (a, b, c, d)
def mixN (s : UInt32 × UInt32 × UInt32 × UInt32) (x y : UInt32) : UInt32 × UInt32 × UInt32 × UInt32 := half (half s x 16 12) y 8 7
def getU (v : List UInt32) (i : Nat) : UInt32 := v.getD i 0
def mixU (v : List UInt32) (a b c d : Nat) (x y : UInt32) : List UInt32 :=
  let r := mixN (getU v a, getU v b, getU v c, getU v d) x y
  (((v.set a r.1).set b r.2.1).set c r.2.2.1).set d r.2.2.2
def sig (r j : Nat) : Nat := (rowsL.getD r []).getD j 0
def at4 (i j : Nat) : Nat := (mixL.getD i []).getD j 0
def stepU (m v : List UInt32) (r i : Nat) : List UInt32 := mixU v (at4 i 0) (at4 i 1) (at4 i 2) (at4 i 3) (getU m (sig r (2 * i))) (getU m (sig r (2 * i + 1)))
def stepTo (m v : List UInt32) (r : Nat) : Nat → List UInt32
  | 0 => v
  | i + 1 => stepU m (stepTo m v r i) r i
def roundTo (m v : List UInt32) : Nat → List UInt32
  | 0 => v
  | r + 1 => stepTo m (roundTo m v r) r 8
def word (b : List UInt8) (i : Nat) : UInt32 := (b.getD (4 * i) 0).toUInt32 ||| ((b.getD (4 * i + 1) 0).toUInt32 <<< 8) ||| ((b.getD (4 * i + 2) 0).toUInt32 <<< 16) ||| ((b.getD (4 * i + 3) 0).toUInt32 <<< 24)
def wordsU (b : List UInt8) : List UInt32 := (List.range 16).map (word b)
def startU (h : List UInt32) (t : Nat) (last : Bool) : List UInt32 :=
  h ++ [getU ivU 0, getU ivU 1, getU ivU 2, getU ivU 3, getU ivU 4 ^^^ UInt32.ofNat t, getU ivU 5 ^^^ UInt32.ofNat (t / 4294967296), if last then ~~~ (getU ivU 6) else getU ivU 6, getU ivU 7]
def endU (h v : List UInt32) : List UInt32 := (List.range 8).map fun i => getU h i ^^^ (getU v i ^^^ getU v (i + 8))
/-- A block mixed in, of which t bytes were there till now. -/
def blkU (h : List UInt32) (b : List UInt8) (t : Nat) (last : Bool) : List UInt32 := endU h (roundTo (wordsU b) (startU h t last) 10)
def h0U : List UInt32 := ivU.set 0 (getU ivU 0 ^^^ 16842784)
/-- The numbers behind j whole blocks. -/
def hTo (s : List UInt8) : Nat → List UInt32
  | 0 => h0U
  | j + 1 => blkU (hTo s j) (s.drop (64 * j)) (64 * (j + 1)) false
/-- How many blocks stand ahead of the last one. -/
def ahead (n : Nat) : Nat := (n - 1) / 64
def sumU (s : List UInt8) : List UInt32 := blkU (hTo s (ahead s.length)) (s.drop (64 * ahead s.length)) s.length true
def bytesU (n : UInt32) : List UInt8 := [n.toUInt8, (n >>> 8).toUInt8, (n >>> 16).toUInt8, (n >>> 24).toUInt8]
def blakeL (s : List UInt8) : List UInt8 := (sumU s).flatMap bytesU

/-! ### Lengths -/
theorem mixU_length (v : List UInt32) (a b c d : Nat) (x y : UInt32) : (mixU v a b c d x y).length = v.length := by simp [mixU]
theorem stepTo_length (m v : List UInt32) (r i : Nat) : (stepTo m v r i).length = v.length := by
  induction i with
  | zero => rfl
  | succ i ih => rw [stepTo, stepU, mixU_length, ih]
theorem roundTo_length (m v : List UInt32) (r : Nat) : (roundTo m v r).length = v.length := by
  induction r with
  | zero => rfl
  | succ r ih => rw [roundTo, stepTo_length, ih]
theorem endU_length (h v : List UInt32) : (endU h v).length = 8 := rfl
theorem blkU_length (h : List UInt32) (b : List UInt8) (t : Nat) (last : Bool) : (blkU h b t last).length = 8 := rfl
theorem hTo_length (s : List UInt8) (j : Nat) : (hTo s j).length = 8 := by
  cases j <;> rfl
theorem wordsU_length (b : List UInt8) : (wordsU b).length = 16 := by simp [wordsU]
theorem blakeL_length (s : List UInt8) : (blakeL s).length = 32 := by
  have : ∀ l : List UInt32, (l.flatMap bytesU).length = 4 * l.length := by
    intro l
    induction l with
    | nil => rfl
    | cons x l ih => rw [List.flatMap_cons, List.length_append, ih, List.length_cons]; show 4 + _ = _; omega
  rw [blakeL, this, sumU, blkU_length]

/-! ### The words as the machine spells them -/
theorem u_lt (a : UInt32) : a.toNat < 4294967296 := a.toNat_lt
theorem addU (a b : UInt32) : IntKind.u32.wrap ((a.toNat : Int) + (b.toNat : Int)) = ((a + b).toNat : Int) := by
  rw [IntKind.wrap_u32', UInt32.toNat_add]
  omega
theorem xorU (a b : UInt32) : bits .xor .u32 (a.toNat : Int) (b.toNat : Int) = ((a ^^^ b).toNat : Int) := by
  rw [u32_xor_nat _ _ (u_lt a) (u_lt b), UInt32.toNat_xor]
theorem orU (a b : UInt32) : bits .or .u32 (a.toNat : Int) (b.toNat : Int) = ((a ||| b).toNat : Int) := by
  rw [u32_or_nat _ _ (u_lt a) (u_lt b), UInt32.toNat_or]
theorem shlU (a : UInt32) (n : Nat) (h : n < 32) : IntKind.u32.wrap ((a.toNat : Int) * 2 ^ n) = ((a <<< UInt32.ofNat n).toNat : Int) := by
  rw [IntKind.wrap_u32', UInt32.toNat_shiftLeft, UInt32.toNat_ofNat_of_lt' (by show n < 4294967296; omega), Nat.mod_eq_of_lt h, Nat.shiftLeft_eq]
  rw [show ((a.toNat : Int) * 2 ^ n) = ((a.toNat * 2 ^ n : Nat) : Int) by rw [Int.natCast_mul, Int.natCast_pow]; rfl]
  omega
theorem shrU (a : UInt32) (n : Nat) (h : n < 32) : (a.toNat : Int) / 2 ^ n = ((a >>> UInt32.ofNat n).toNat : Int) := by
  rw [UInt32.toNat_shiftRight, UInt32.toNat_ofNat_of_lt' (by show n < 4294967296; omega), Nat.mod_eq_of_lt h, Nat.shiftRight_eq_div_pow]
  rw [show ((2 : Int) ^ n) = ((2 ^ n : Nat) : Int) by rw [Int.natCast_pow]; rfl]
  rfl
end Go.Proofs.YtnnkenbcdepafaaGreatDoor.K

namespace Go.Proofs.YtnnkenbcdepafaaGreatDoor.K
open Go.RowKit Go.Proofs.YtnnkenbcdepafaaGreatDoorW.PrintWords Go.Proofs.YtnnkenbcdepafaaGreatDoorW.PrintLast Go.Proofs.YtnnkenbcdepafaaGreatDoorW.PrintMore
set_option linter.unusedVariables false
set_option linter.unusedSimpArgs false

def mixA : Array Value := (mixL.flatten.map fun (n : Nat) => Value.int .i64 (n : Int)).toArray

def rowA (r : Nat) : Array Value := ((rowsL.getD r []).map fun (n : Nat) => Value.int .u8 (n : Int)).toArray
def rowsA : Array Value := (rowsL.flatten.map fun (n : Nat) => Value.int .u8 (n : Int)).toArray

section
variable {P : Program}
/-- A composite value written out, its cells as one term. -/
theorem wpList_build_to {ops : Array Oper} {rest : List Oper} {o : Oper} {a : Act} {w : World} {Q : Exit → Act → World → Prop} (hg : o.guard = none) (t : TypeId) (parts : Array (Nat × Operand)) (ho : o.op = .build t parts) (cells : Array Value)
    (hc : P.built t (parts.map fun (i, x) => (i, a.eval x)).toList = some cells) (h : wpList P ops Q rest (a.put o.dst (.agg cells)) w) : wpList P ops Q (o :: rest) a w :=
  wpList_build hg t parts ho (by rw [hc]; rfl) (by rw [hc]; exact h)
end

theorem setRow_new (w : World) (old cs : Array Value) (t : TypeId) : (w.alloc (.cells old t)).setRow w.heap.size cs = w.alloc (.cells cs t) := World.setRow_alloc_new w old cs t

set_option maxHeartbeats 4000000 in
set_option maxRecDepth 100000 in
theorem mixes_calls (w : World) : Calls Tryz.prog 97 #[] w fun e w' => e = .returned (.agg mixA) ∧ Below w.heap.size w w' := by
  have hz := (zero_of_info (P := Tryz.prog) (t := 135) (v := .agg (Array.replicate 32 (.int .i64 0))) (n := 32) (by kernel_rfl)).1
  go_enter Tryz.func97, Tryz.ntmps97
  go_wp2_with (first | ((with_reducible refine gate_dst (N := 1) rfl ?_); refine wpList_build_to rfl 134 _ rfl ((mixL.getD 0 []).map fun (n : Nat) => Value.int .i64 (n : Int)).toArray (by kernel_rfl) ?_; simp only [Act.put, List.setIfInBounds_toArray, List.set_cons_zero, List.set_cons_succ]) | ((with_reducible refine gate_dst (N := 2) rfl ?_); refine wpList_build_to rfl 134 _ rfl ((mixL.getD 1 []).map fun (n : Nat) => Value.int .i64 (n : Int)).toArray (by kernel_rfl) ?_; simp only [Act.put, List.setIfInBounds_toArray, List.set_cons_zero, List.set_cons_succ]) | ((with_reducible refine gate_dst (N := 3) rfl ?_); refine wpList_build_to rfl 134 _ rfl ((mixL.getD 2 []).map fun (n : Nat) => Value.int .i64 (n : Int)).toArray (by kernel_rfl) ?_; simp only [Act.put, List.setIfInBounds_toArray, List.set_cons_zero, List.set_cons_succ]) | ((with_reducible refine gate_dst (N := 4) rfl ?_); refine wpList_build_to rfl 134 _ rfl ((mixL.getD 3 []).map fun (n : Nat) => Value.int .i64 (n : Int)).toArray (by kernel_rfl) ?_; simp only [Act.put, List.setIfInBounds_toArray, List.set_cons_zero, List.set_cons_succ]) | ((with_reducible refine gate_dst (N := 5) rfl ?_); refine wpList_build_to rfl 134 _ rfl ((mixL.getD 4 []).map fun (n : Nat) => Value.int .i64 (n : Int)).toArray (by kernel_rfl) ?_; simp only [Act.put, List.setIfInBounds_toArray, List.set_cons_zero, List.set_cons_succ]) | ((with_reducible refine gate_dst (N := 6) rfl ?_); refine wpList_build_to rfl 134 _ rfl ((mixL.getD 5 []).map fun (n : Nat) => Value.int .i64 (n : Int)).toArray (by kernel_rfl) ?_; simp only [Act.put, List.setIfInBounds_toArray, List.set_cons_zero, List.set_cons_succ]) | ((with_reducible refine gate_dst (N := 7) rfl ?_); refine wpList_build_to rfl 134 _ rfl ((mixL.getD 6 []).map fun (n : Nat) => Value.int .i64 (n : Int)).toArray (by kernel_rfl) ?_; simp only [Act.put, List.setIfInBounds_toArray, List.set_cons_zero, List.set_cons_succ]) | ((with_reducible refine gate_dst (N := 8) rfl ?_); refine wpList_build_to rfl 134 _ rfl ((mixL.getD 7 []).map fun (n : Nat) => Value.int .i64 (n : Int)).toArray (by kernel_rfl) ?_; simp only [Act.put, List.setIfInBounds_toArray, List.set_cons_zero, List.set_cons_succ]) | ((with_reducible refine gate_dst (N := 9) rfl ?_); refine wpList_build_to rfl 135 _ rfl mixA (by kernel_rfl) ?_; simp only [Act.put, List.setIfInBounds_toArray, List.set_cons_zero, List.set_cons_succ]) | (refine wpList_store_row rfl 135 (.tmp 0) (.tmp 9) rfl w.heap.size mixA rfl rfl 135 _ (heap_alloc_new w _) (by kernel_rfl) (by kernel_rfl) (by kernel_rfl) ?_; rw [setRow_new]; simp only [Act.put]))
  refine bodyPost_ret (v := .agg mixA) (results_cell_row (p := 0) (ty := 135) (by rfl) _ _ w.heap.size 135 mixA (0, 0) _ (by rfl) (heap_alloc_new w _) Tryz.underlying135 rfl (by kernel_rfl)) rfl ⟨rfl, (Below.refl _ _).alloc (Nat.le_refl _) _⟩

set_option maxHeartbeats 4000000 in
set_option maxRecDepth 100000 in
theorem rows_calls (w : World) : Calls Tryz.prog 96 #[] w fun e w' => e = .returned (.agg rowsA) ∧ Below w.heap.size w w' := by
  have hz := (zero_of_info (P := Tryz.prog) (t := 132) (v := .agg (Array.replicate 160 (.int .u8 0))) (n := 160) (by kernel_rfl)).1
  go_enter Tryz.func96, Tryz.ntmps96
  go_wp2_with (first | ((with_reducible refine gate_dst (N := 1) rfl ?_); refine wpList_build_to rfl 131 _ rfl (rowA 0) (by kernel_rfl) ?_; simp only [Act.put, List.setIfInBounds_toArray, List.set_cons_zero, List.set_cons_succ]) | ((with_reducible refine gate_dst (N := 2) rfl ?_); refine wpList_build_to rfl 131 _ rfl (rowA 1) (by kernel_rfl) ?_; simp only [Act.put, List.setIfInBounds_toArray, List.set_cons_zero, List.set_cons_succ]) | ((with_reducible refine gate_dst (N := 3) rfl ?_); refine wpList_build_to rfl 131 _ rfl (rowA 2) (by kernel_rfl) ?_; simp only [Act.put, List.setIfInBounds_toArray, List.set_cons_zero, List.set_cons_succ]) | ((with_reducible refine gate_dst (N := 4) rfl ?_); refine wpList_build_to rfl 131 _ rfl (rowA 3) (by kernel_rfl) ?_; simp only [Act.put, List.setIfInBounds_toArray, List.set_cons_zero, List.set_cons_succ]) | ((with_reducible refine gate_dst (N := 5) rfl ?_); refine wpList_build_to rfl 131 _ rfl (rowA 4) (by kernel_rfl) ?_; simp only [Act.put, List.setIfInBounds_toArray, List.set_cons_zero, List.set_cons_succ]) | ((with_reducible refine gate_dst (N := 6) rfl ?_); refine wpList_build_to rfl 131 _ rfl (rowA 5) (by kernel_rfl) ?_; simp only [Act.put, List.setIfInBounds_toArray, List.set_cons_zero, List.set_cons_succ]) | ((with_reducible refine gate_dst (N := 7) rfl ?_); refine wpList_build_to rfl 131 _ rfl (rowA 6) (by kernel_rfl) ?_; simp only [Act.put, List.setIfInBounds_toArray, List.set_cons_zero, List.set_cons_succ]) | ((with_reducible refine gate_dst (N := 8) rfl ?_); refine wpList_build_to rfl 131 _ rfl (rowA 7) (by kernel_rfl) ?_; simp only [Act.put, List.setIfInBounds_toArray, List.set_cons_zero, List.set_cons_succ]) | ((with_reducible refine gate_dst (N := 9) rfl ?_); refine wpList_build_to rfl 131 _ rfl (rowA 8) (by kernel_rfl) ?_; simp only [Act.put, List.setIfInBounds_toArray, List.set_cons_zero, List.set_cons_succ]) | ((with_reducible refine gate_dst (N := 10) rfl ?_); refine wpList_build_to rfl 131 _ rfl (rowA 9) (by kernel_rfl) ?_; simp only [Act.put, List.setIfInBounds_toArray, List.set_cons_zero, List.set_cons_succ]) | ((with_reducible refine gate_dst (N := 11) rfl ?_); refine wpList_build_to rfl 132 _ rfl rowsA (by kernel_rfl) ?_; simp only [Act.put, List.setIfInBounds_toArray, List.set_cons_zero, List.set_cons_succ]) | (refine wpList_store_row rfl 132 (.tmp 0) (.tmp 11) rfl w.heap.size rowsA rfl rfl 132 _ (heap_alloc_new w _) (by kernel_rfl) (by kernel_rfl) (by kernel_rfl) ?_; rw [setRow_new]; simp only [Act.put]))
  refine bodyPost_ret (v := .agg rowsA) (results_cell_row (p := 0) (ty := 132) (by rfl) _ _ w.heap.size 132 rowsA (0, 0) _ (by rfl) (heap_alloc_new w _) Tryz.underlying132 rfl (by kernel_rfl)) rfl ⟨rfl, (Below.refl _ _).alloc (Nat.le_refl _) _⟩


end Go.Proofs.YtnnkenbcdepafaaGreatDoor.K

namespace Go.Proofs.YtnnkenbcdepafaaGreatDoor.K
open Go.RowKit Go.Proofs.YtnnkenbcdepafaaGreatDoorW.PrintWords Go.Proofs.YtnnkenbcdepafaaGreatDoorW.PrintLast Go.Proofs.YtnnkenbcdepafaaGreatDoorW.PrintMore
set_option linter.unusedVariables false
set_option linter.unusedSimpArgs false

def primes : List Nat := [2, 3, 5, 7, 11, 13, 17, 19]
def prime (i : Nat) : Nat := primes.getD i 0
def fits (p y : Nat) : Bool := decide (y * y / 18446744073709551616 < p) || (decide (y * y / 18446744073709551616 = p) && decide (y * y % 18446744073709551616 = 0))
def xAt (p : Nat) : Nat → Nat
  | 0 => 0
  | m + 1 => if fits p (xAt p m ||| 2 ^ (34 - m)) = true then xAt p m ||| 2 ^ (34 - m) else xAt p m
theorem xAt_lt (p : Nat) : ∀ m, m ≤ 35 → xAt p m < 34359738368
  | 0, _ => by show 0 < _; decide
  | m + 1, h => by
    have ih := xAt_lt p m (by omega)
    have h2 : 2 ^ (34 - m) < 2 ^ 35 := Nat.pow_lt_pow_right (by decide) (by omega)
    have h3 : xAt p m ||| 2 ^ (34 - m) < 2 ^ 35 := Nat.or_lt_two_pow ih h2
    unfold xAt
    split
    · exact h3
    · exact ih
theorem wrap_nat {q : Nat} (h : q < 18446744073709551616) : IntKind.u64.wrap (q : Int) = (q : Int) := by
  rw [IntKind.wrap_u64]
  omega
def primeA : Array Value := (primes.map fun (n : Nat) => Value.int .u64 (n : Int)).toArray
def ivA : Array Value := (ivU.map fun (n : UInt32) => Value.int .u32 (n.toNat : Int)).toArray
def ivTo (i : Nat) : Array Value := ((ivU.take i ++ List.replicate (8 - i) 0).map fun (n : UInt32) => Value.int .u32 (n.toNat : Int)).toArray
theorem iv_prime (i : Nat) (h : i < 8) : xAt (prime i) 35 % 4294967296 = (getU ivU i).toNat := by
  have : i = 0 ∨ i = 1 ∨ i = 2 ∨ i = 3 ∨ i = 4 ∨ i = 5 ∨ i = 6 ∨ i = 7 := by omega
  rcases this with rfl | rfl | rfl | rfl | rfl | rfl | rfl | rfl <;> decide +kernel

theorem below_setRow {B g : Nat} {a w : World} (h : Below B a w) (hg : B ≤ g) (cs : Array Value) : Below B a (w.setRow g cs) :=
  ⟨h.os, h.tape, h.output, by rw [setRow_size]; exact h.size, fun k hk => (setRow_other w g k cs (by omega)).trans (h.block k hk)⟩

set_option maxHeartbeats 4000000 in
set_option maxRecDepth 100000 in
theorem firsts_calls (w : World) : Calls Tryz.prog 95 #[] w fun e w' => e = .returned (.agg ivA) ∧ Below w.heap.size w w' := by
  have HB := Aside0.mk (Below.refl w.heap.size w)
  have b0 : Aside0 (((w.alloc (.cells (Array.replicate 8 (.int .u32 0)) 100)).alloc (.cells (Array.replicate 8 (.int .u32 0)) 100)).heap[w.heap.size]? = some (.cells (Array.replicate 8 (.int .u32 0)) 100 (0, 0))) := ⟨heap_alloc2_old w _ _⟩
  have b1 : Aside0 (((w.alloc (.cells (Array.replicate 8 (.int .u32 0)) 100)).alloc (.cells (Array.replicate 8 (.int .u32 0)) 100)).heap[w.heap.size + 1]? = some (.cells (ivTo 0) 100 (0, 0))) := ⟨heap_alloc2_new w _ _⟩
  have HB := Aside0.mk (((Below.refl w.heap.size w).alloc (Nat.le_refl _) (.cells (Array.replicate 8 (.int .u32 0)) 100)).alloc (by rw [World.size_alloc]; omega) (.cells (Array.replicate 8 (.int .u32 0)) 100))
  go_enter Tryz.func95, Tryz.ntmps95
  go_wp2_with fail
  go_loopg [10] 8 (fun gk v10 w' => ∃ (i : Nat), v10 = .int .i64 (i : Int) ∧ i ≤ 8 ∧ Aside0 (8 - i ≤ gk) ∧ Aside0 (w'.heap[w.heap.size]? = some (.cells (Array.replicate 8 (.int .u32 0)) 100 (0, 0))) ∧ Aside0 (w'.heap[w.heap.size + 1]? = some (.cells (ivTo i) 100 (0, 0))) ∧ Aside0 (Below w.heap.size w w'))
  case atStart => exact ⟨0, by rfl, by omega, ⟨by omega⟩, b0, b1, HB⟩
  case round =>
    clear b0 b1 HB
    obtain ⟨i, rfl, hi, HG, b0, b1, HB⟩ := hrel
    by_cases hlt : i < 8
    · have hb8 : decide ((i : Int) < 8) = true := decide_eq_true (by omega)
      have hidx : ∀ w, (Instr.index 153 (.agg #[.int .u64 2, .int .u64 3, .int .u64 5, .int .u64 7, .int .u64 11, .int .u64 13, .int .u64 17, .int .u64 19]) (.int .i64 (i : Int))).run Tryz.prog w = .ok (.int .u64 (prime i : Int)) w := by
        have : i = 0 ∨ i = 1 ∨ i = 2 ∨ i = 3 ∨ i = 4 ∨ i = 5 ∨ i = 6 ∨ i = 7 := by omega
        rcases this with rfl | rfl | rfl | rfl | rfl | rfl | rfl | rfl <;> (intro w; kernel_rfl)
      have hp64 : prime i < 18446744073709551616 := by
        have : i = 0 ∨ i = 1 ∨ i = 2 ∨ i = 3 ∨ i = 4 ∨ i = 5 ∨ i = 6 ∨ i = 7 := by omega
        rcases this with rfl | rfl | rfl | rfl | rfl | rfl | rfl | rfl <;> decide
      obtain ⟨p, hp⟩ : ∃ p, p = prime i := ⟨_, rfl⟩
      rw [← hp] at hidx hp64
      have HP := Aside0.mk hp
      clear hp
      go_wp2_with fail
      go_loopg [4, 5] 35 (fun gk v4 v5 w' => (∃ (b : Nat), v5 = .int .i64 (b : Int) ∧ v4 = .int .u64 (xAt p (34 - b) : Int) ∧ b ≤ 34 ∧ Aside0 (b < gk) ∧ Aside0 (w' = wr)) ∨ (v5 = .int .i64 (-1) ∧ v4 = .int .u64 (xAt p 35 : Int) ∧ Aside0 (w' = wr)))
      case atStart => exact .inl ⟨34, by rfl, by rfl, by omega, ⟨by omega⟩, ⟨rfl⟩⟩
      case round =>
        rcases hrel with ⟨b, rfl, rfl, hb, HG2, HW⟩ | ⟨rfl, rfl, HW⟩
        · have := HW.out
          subst this
          have hx : xAt p (34 - b) < 34359738368 := xAt_lt p _ (by omega)
          have hor : xAt p (34 - b) ||| 2 ^ b < 34359738368 := Nat.or_lt_two_pow (n := 35) hx (Nat.pow_lt_pow_right (by decide) (by omega))
          have hpw : 2 ^ b < 18446744073709551616 := Nat.lt_of_lt_of_le (Nat.pow_lt_pow_right (a := 2) (m := b) (n := 35) (by decide) (by omega)) (by decide)
          have e : bits .or .u64 (xAt p (34 - b) : Int) (IntKind.u64.wrap (2 ^ b)) = ((xAt p (34 - b) ||| 2 ^ b : Nat) : Int) := by
            rw [show ((2 : Int) ^ b) = ((2 ^ b : Nat) : Int) by rw [Int.natCast_pow]; rfl, wrap_nat hpw]
            exact u64_or_nat _ _ (by omega) hpw
          have hnext : xAt p (34 - b + 1) = if fits p (xAt p (34 - b) ||| 2 ^ b) = true then xAt p (34 - b) ||| 2 ^ b else xAt p (34 - b) := by
            have e3 : 34 - (34 - b) = b := by omega
            conv => lhs; unfold xAt
            rw [e3]
          obtain ⟨y, hy⟩ : ∃ y, y = xAt p (34 - b) ||| 2 ^ b := ⟨_, rfl⟩
          rw [← hy] at e hor hnext
          obtain ⟨x, hx'⟩ : ∃ x, x = xAt p (34 - b) := ⟨_, rfl⟩
          rw [← hx'] at e hx hnext
          obtain ⟨h, hh⟩ : ∃ h, h = y * y / 18446744073709551616 := ⟨_, rfl⟩
          obtain ⟨l, hl⟩ : ∃ l, l = y * y % 18446744073709551616 := ⟨_, rfl⟩
          have hf : fits p y = (decide (h < p) || (decide (h = p) && decide (l = 0))) := by rw [hh, hl]; rfl
          rw [hf] at hnext
          have HN := Aside0.mk hnext
          have HE := Aside0.mk e
          have HM := Aside0.mk (Tryz.bits_Mul64 y y (by omega) (by omega))
          rw [← hh, ← hl] at HM
          rw [← hx']
          have hend : ∀ (v : Nat) (W W0 : World), Aside0 (W = W0) → xAt p (34 - b + 1) = v → (∃ b' : Nat, Value.int .i64 ((b : Int) - 1) = .int .i64 (b' : Int) ∧ Value.int .u64 (v : Int) = .int .u64 (xAt p (34 - b') : Int) ∧ b' ≤ 34 ∧ Aside0 (b' < b) ∧ Aside0 (W = W0)) ∨ (Value.int .i64 ((b : Int) - 1) = .int .i64 (-1) ∧ Value.int .u64 (v : Int) = .int .u64 (xAt p 35 : Int) ∧ Aside0 (W = W0)) := by
            intro v W W0 hW hv
            rcases Nat.eq_zero_or_pos b with h0 | h0
            · subst h0
              exact .inr ⟨rfl, by rw [← hv], hW⟩
            · refine .inl ⟨b - 1, ?_, ?_, by omega, ⟨by omega⟩, hW⟩
              · rw [show ((b : Int) - 1) = ((b - 1 : Nat) : Int) by omega]
              · rw [show 34 - (b - 1) = 34 - b + 1 by omega, hv]
          have HEND := Aside0.mk hend
          clear hy hx' hh hl hf hnext e hpw hend
          go_wp2_with fail
          rw [HE.out]
          refine (HM.out _).mono ?_
          rintro e' w2 ⟨rfl, rfl⟩
          have HR := Aside0.mk (show (decide (h < p) || (decide (h = p) && decide (l = 0))) = (if h < p then true else if h = p then (if l = 0 then true else false) else false) by
            by_cases c1 : h < p <;> by_cases c2 : h = p <;> by_cases c3 : l = 0 <;> simp [c1, c2, c3])
          by_cases c1 : h < p
          · have d1 : decide ((h : Int) < (p : Int)) = true := decide_eq_true (by omega)
            have d1' : decide (h < p) = true := decide_eq_true c1
            have hv := HN.out
            rw [HR.out, if_pos c1, if_pos rfl] at hv
            have HV := Aside0.mk hv
            clear hv c1
            go_wp2_with fail
            go_roundg b
            case measure => exact HG2.out
            case rel => exact HEND.out y _ _ ⟨rfl⟩ HV.out
          · have d1 : decide ((h : Int) < (p : Int)) = false := decide_eq_false (by omega)
            have d1' : decide (h < p) = false := decide_eq_false c1
            by_cases c2 : h = p
            · have d2 : ((h : Int) == (p : Int)) = true := by rw [beq_iff_eq]; omega
              by_cases c3 : l = 0
              · have d3 : ((l : Int) == 0) = true := by rw [beq_iff_eq]; omega
                have hv := HN.out
                rw [HR.out, if_neg c1, if_pos c2, if_pos c3, if_pos rfl] at hv
                have HV := Aside0.mk hv
                clear hv c1 c2 c3
                go_wp2_with fail
                go_roundg b
                case measure => exact HG2.out
                case rel => exact HEND.out y _ _ ⟨rfl⟩ HV.out
              · have d3 : ((l : Int) == 0) = false := by rw [beq_eq_false_iff_ne]; omega
                have hv := HN.out
                rw [HR.out, if_neg c1, if_pos c2, if_neg c3, if_neg (by decide)] at hv
                have HV := Aside0.mk hv
                clear hv c1 c2 c3
                go_wp2_with fail
                go_roundg b
                case measure => exact HG2.out
                case rel => exact HEND.out x _ _ ⟨rfl⟩ HV.out
            · have d2 : ((h : Int) == (p : Int)) = false := by rw [beq_eq_false_iff_ne]; omega
              have hv := HN.out
              rw [HR.out, if_neg c1, if_neg c2, if_neg (by decide)] at hv
              have HV := Aside0.mk hv
              clear hv c1 c2
              go_wp2_with fail
              go_roundg b
              case measure => exact HG2.out
              case rel => exact HEND.out x _ _ ⟨rfl⟩ HV.out
        · have := HW.out
          subst this
          have y1 := blk_cell b1.out i
          have y1' : (ivTo i)[i]? = some (.int .u32 0) := by
            have : i = 0 ∨ i = 1 ∨ i = 2 ∨ i = 3 ∨ i = 4 ∨ i = 5 ∨ i = 6 ∨ i = 7 := by omega
            rcases this with rfl | rfl | rfl | rfl | rfl | rfl | rfl | rfl <;> rfl
          rw [y1'] at y1
          have f1 := blk_frozen b1.out i
          clear y1'
          have e : IntKind.u32.wrap ((xAt p 35 : Nat) : Int) = ((getU ivU i).toNat : Int) := by
            rw [IntKind.wrap_u32', HP.out, ← iv_prime i hlt]
            omega
          have e' : ((xAt p 35 : Nat) : Int) % 4294967296 = ((getU ivU i).toNat : Int) := by
            rw [HP.out, ← iv_prime i hlt]
            omega
          have HE := Aside0.mk e
          have HE' := Aside0.mk e'
          clear e e'
          go_wp2_with fail
          rw [HE'.out]
          have b1' := blk_set b1.out i (Value.int .u32 ((getU ivU i).toNat : Int))
          have e2 : (ivTo i).setIfInBounds i (Value.int .u32 ((getU ivU i).toNat : Int)) = ivTo (i + 1) := by
            have : i = 0 ∨ i = 1 ∨ i = 2 ∨ i = 3 ∨ i = 4 ∨ i = 5 ∨ i = 6 ∨ i = 7 := by omega
            rcases this with rfl | rfl | rfl | rfl | rfl | rfl | rfl | rfl <;> rfl
          rw [e2] at b1'
          have b0' := (Below.heap_setCell _ ⟨w.heap.size + 1, i, none⟩ (Value.int .u32 ((getU ivU i).toNat : Int)) w.heap.size (by simp)).trans b0.out
          have hb' := HB.out.setCell (p := ⟨w.heap.size + 1, i, none⟩) (by simp) (Value.int .u32 ((getU ivU i).toNat : Int))
          go_roundg (8 - (i + 1))
          case measure => have := HG.out; omega
          case rel => exact ⟨i + 1, by go_num, by omega, ⟨by omega⟩, ⟨b0'⟩, ⟨b1'⟩, ⟨hb'⟩⟩
    · have hi8 : i = 8 := by omega
      subst hi8
      have hb8 : decide (((8 : Nat) : Int) < 8) = false := by decide
      go_wp2_with (first | ((with_reducible refine gate_dst (N := 46) rfl ?_); refine wpList_load_row rfl 100 _ rfl (w.heap.size + 1) rfl 100 (ivTo 8) (0, 0) _ b1.out Tryz.underlying100 rfl (by kernel_rfl) ?_; simp only [Act.put, List.setIfInBounds_toArray, List.set_cons_zero, List.set_cons_succ]) | (refine wpList_store_row rfl 100 (.tmp 0) (.tmp 46) rfl w.heap.size (ivTo 8) rfl rfl 100 _ b0.out (by kernel_rfl) (by kernel_rfl) (by kernel_rfl) ?_; simp only [Act.put]))
      refine bodyPost_ret (v := .agg ivA) (results_cell_row (p := 0) (ty := 100) (by rfl) _ _ w.heap.size 100 ivA (0, 0) _ (by rfl) (setRow_heap _ _ _ _ _ _ b0.out) Tryz.underlying100 rfl (by kernel_rfl)) rfl ⟨rfl, below_setRow HB.out (Nat.le_refl _) _⟩
end Go.Proofs.YtnnkenbcdepafaaGreatDoor.K

namespace Go.Proofs.YtnnkenbcdepafaaGreatDoor.K
open Go.RowKit Go.Proofs.YtnnkenbcdepafaaGreatDoorW.PrintWords Go.Proofs.YtnnkenbcdepafaaGreatDoorW.PrintLast Go.Proofs.YtnnkenbcdepafaaGreatDoorW.PrintMore Go.Proofs.YtnnkenbcdepafaaGreatDoor.B
set_option linter.unusedVariables false
set_option linter.unusedSimpArgs false

def cellU (n : UInt32) : Value := .int .u32 (n.toNat : Int)
def cellsU (v : List UInt32) : Array Value := (v.map cellU).toArray
theorem cellsU_get (v : List UInt32) (i : Nat) (h : i < v.length) : (cellsU v)[i]? = some (.int .u32 ((getU v i).toNat : Int)) := by
  simp [cellsU, cellU, getU, List.getElem?_eq_getElem h]
theorem cellsU_set (v : List UInt32) (i : Nat) (x : UInt32) : (cellsU v).setIfInBounds i (.int .u32 (x.toNat : Int)) = cellsU (v.set i x) := by
  simp [cellsU, cellU, List.map_set]
theorem rotl_f (x : UInt32) (n : Nat) (h : n = 16 ∨ n = 12 ∨ n = 8 ∨ n = 7) : bits_RotateLeft32.f (x.toNat : Int) (-(n : Int)) = some ((rotr x (UInt32.ofNat n)).toNat : Int) := by
  have key : ∀ m : Nat, m < 32 → (shl .u32 (x.toNat : Int) (m : Int)) = ((x <<< UInt32.ofNat m).toNat : Int) := by
    intro m hm
    unfold shl
    rw [show min ((m : Int).toNat) IntKind.u32.bits = m by show min m 32 = m; omega]
    exact shlU x m hm
  have key2 : ∀ m : Nat, m < 32 → (shr .u32 (x.toNat : Int) (m : Int)) = ((x >>> UInt32.ofNat m).toNat : Int) := by
    intro m hm
    unfold shr
    rw [show min ((m : Int).toNat) IntKind.u32.bits = m by show min m 32 = m; omega]
    exact shrU x m hm
  unfold bits_RotateLeft32.f
  rcases h with rfl | rfl | rfl | rfl
  · rw [show (Go.bits .and .u64 (IntKind.u64.wrap (-((16 : Nat) : Int))) 31) = ((16 : Nat) : Int) by decide, if_pos (by decide), show IntKind.u64.wrap (32 - ((16 : Nat) : Int)) = ((16 : Nat) : Int) by decide, if_pos (by decide), key 16 (by decide), key2 16 (by decide), orU, UInt32.or_comm]
    rfl
  · rw [show (Go.bits .and .u64 (IntKind.u64.wrap (-((12 : Nat) : Int))) 31) = ((20 : Nat) : Int) by decide, if_pos (by decide), show IntKind.u64.wrap (32 - ((20 : Nat) : Int)) = ((12 : Nat) : Int) by decide, if_pos (by decide), key 20 (by decide), key2 12 (by decide), orU, UInt32.or_comm]
    rfl
  · rw [show (Go.bits .and .u64 (IntKind.u64.wrap (-((8 : Nat) : Int))) 31) = ((24 : Nat) : Int) by decide, if_pos (by decide), show IntKind.u64.wrap (32 - ((24 : Nat) : Int)) = ((8 : Nat) : Int) by decide, if_pos (by decide), key 24 (by decide), key2 8 (by decide), orU, UInt32.or_comm]
    rfl
  · rw [show (Go.bits .and .u64 (IntKind.u64.wrap (-((7 : Nat) : Int))) 31) = ((25 : Nat) : Int) by decide, if_pos (by decide), show IntKind.u64.wrap (32 - ((25 : Nat) : Int)) = ((7 : Nat) : Int) by decide, if_pos (by decide), key 25 (by decide), key2 7 (by decide), orU, UInt32.or_comm]
    rfl

theorem rotl16 (x : UInt32) : bits_RotateLeft32.f (x.toNat : Int) (-16) = some ((rotr x 16).toNat : Int) := rotl_f x 16 (by decide)
theorem rotl12 (x : UInt32) : bits_RotateLeft32.f (x.toNat : Int) (-12) = some ((rotr x 12).toNat : Int) := rotl_f x 12 (by decide)
theorem rotl8 (x : UInt32) : bits_RotateLeft32.f (x.toNat : Int) (-8) = some ((rotr x 8).toNat : Int) := rotl_f x 8 (by decide)
theorem rotl7 (x : UInt32) : bits_RotateLeft32.f (x.toNat : Int) (-7) = some ((rotr x 7).toNat : Int) := rotl_f x 7 (by decide)
theorem add3 (a b x : UInt32) : ((a.toNat : Int) + ((b.toNat : Int) + (x.toNat : Int))) % 4294967296 = ((a + (b + x)).toNat : Int) := by
  rw [UInt32.toNat_add, UInt32.toNat_add]
  omega
theorem add2 (a b : UInt32) : ((a.toNat : Int) + (b.toNat : Int)) % 4294967296 = ((a + b).toNat : Int) := by
  rw [UInt32.toNat_add]
  omega

set_option maxHeartbeats 4000000 in
set_option maxRecDepth 100000 in
theorem mix_calls (B g : Nat) (v : List UInt32) (i j k l : Nat) (x y : UInt32) (w : World) (hv : w.heap[g]? = some (.cells (cellsU v) 130 (0, 0))) (hlen : v.length = 16) (hB : B ≤ g)
    (hi : i < 16) (hj : j < 16) (hk : k < 16) (hl : l < 16) (hij : i ≠ j) (hik : i ≠ k) (hil : i ≠ l) (hjk : j ≠ k) (hjl : j ≠ l) (hkl : k ≠ l) :
    Calls Tryz.prog 98 #[.pointer (some ⟨g, 0, none⟩), .agg #[.int .i64 i, .int .i64 j, .int .i64 k, .int .i64 l], .int .u32 x.toNat, .int .u32 y.toNat] w fun e w' =>
      (∃ r, e = .returned r) ∧ w'.heap[g]? = some (.cells (cellsU (mixU v i j k l x y)) 130 (0, 0)) ∧ Below B w w' ∧ Kept w w' (fun q => q = g) := by
  have HV := Aside0.mk hv
  have HLT := Aside0.mk (blk_lt hv)
  have HB := Aside0.mk (Below.refl w.heap.size w)
  have HIJ := Aside0.mk hij
  clear hv
  have i0 : (0 : Int) ≤ (i : Int) := by omega
  have j0 : (0 : Int) ≤ (j : Int) := by omega
  have k0 : (0 : Int) ≤ (k : Int) := by omega
  have l0 : (0 : Int) ≤ (l : Int) := by omega
  have i1 : (i : Int) < 16 := by omega
  have j1 : (j : Int) < 16 := by omega
  have k1 : (k : Int) < 16 := by omega
  have l1 : (l : Int) < 16 := by omega
  have ci := cellsU_get v i (by omega)
  have cj := cellsU_get v j (by omega)
  have ck := cellsU_get v k (by omega)
  have cl := cellsU_get v l (by omega)
  go_enter Tryz.func98, Tryz.ntmps98
  go_wp2_with (first | ((with_reducible refine gate_dst (N := 5) rfl ?_); refine box_event ?hg (N := 5) ?hd (cs := #[.int .i64 i, .int .i64 j, .int .i64 k, .int .i64 l]) (t := 134) ?hr ?_; (case hd => rfl); (case hg => rfl); (case hr => first | (go_simp; done) | (go_simp; rfl)); intro gb hg w1 hbox hb; have HB1 := Aside0.mk (below_step HB.out hb); have GB := Aside0.mk (show w.heap.size ≤ gb by rw [hg]; exact below_size HB.out); clear HB; have HB := HB1; clear HB1; have BK := Aside0.mk hbox; have HV1 := Aside0.mk (blk_below HV.out hb); clear hb hbox hg HV; have HV := HV1; clear HV1))
  have y0 := blk_cell BK.out 0
  have y1 := blk_cell BK.out 1
  have y2 := blk_cell BK.out 2
  have y3 := blk_cell BK.out 3
  simp only [List.getElem?_toArray, List.getElem?_cons_zero, List.getElem?_cons_succ] at y0 y1 y2 y3
  have zi := (blk_cell HV.out i).trans ci
  have zj := (blk_cell HV.out j).trans cj
  have zk := (blk_cell HV.out k).trans ck
  have zl := (blk_cell HV.out l).trans cl
  clear ci cj ck cl
  obtain ⟨ui, hui⟩ : ∃ u, u = getU v i := ⟨_, rfl⟩
  rw [← hui] at zi
  have HUi := Aside0.mk hui
  clear hui
  obtain ⟨uj, huj⟩ : ∃ u, u = getU v j := ⟨_, rfl⟩
  rw [← huj] at zj
  have HUj := Aside0.mk huj
  clear huj
  obtain ⟨uk, huk⟩ : ∃ u, u = getU v k := ⟨_, rfl⟩
  rw [← huk] at zk
  have HUk := Aside0.mk huk
  clear huk
  obtain ⟨ul, hul⟩ : ∃ u, u = getU v l := ⟨_, rfl⟩
  rw [← hul] at zl
  have HUl := Aside0.mk hul
  clear hul
  go_quiet (fail)
  go_wp2_with fail
  have BK1 := Aside0.mk (blk_drewN BK.out nq)
  have HV1 := Aside0.mk (blk_drewN HV.out nq)
  have HB1 := Aside0.mk (HB.out.trans (pw_below_drewN (Below.refl _ _) nq))
  clear y0 y1 y2 y3 zi zj zk zl BK HV HB
  go_loopg [8, 9, 10, 11, 43] 2 (fun gk v8 v9 v10 v11 v43 w' => ∃ (n : Nat) (s : UInt32 × UInt32 × UInt32 × UInt32), v43 = .int .i64 (n : Int) ∧ v8 = .int .u32 s.1.toNat ∧ v9 = .int .u32 s.2.1.toNat ∧ v10 = .int .u32 s.2.2.1.toNat ∧ v11 = .int .u32 s.2.2.2.toNat ∧ n ≤ 2 ∧ Aside0 (2 - n ≤ gk) ∧
    Aside0 (s = if n = 0 then (ui, uj, uk, ul) else if n = 1 then half (ui, uj, uk, ul) x 16 12 else mixN (ui, uj, uk, ul) x y) ∧ Aside0 (w'.heap[gb]? = some (.cells #[.int .i64 i, .int .i64 j, .int .i64 k, .int .i64 l] 134 (0, 0))) ∧ Aside0 (w'.heap[g]? = some (.cells (cellsU v) 130 (0, 0))) ∧ Aside0 (Below w.heap.size w w'))
  case atStart => exact ⟨0, (ui, uj, uk, ul), by rfl, by rfl, by rfl, by rfl, by rfl, by omega, ⟨by omega⟩, ⟨by rfl⟩, BK1, HV1, HB1⟩
  case round =>
    clear BK1 HV1 HB1
    obtain ⟨n, s, rfl, rfl, rfl, rfl, rfl, hn, HG, HS, BK, HV, HB⟩ := hrel
    obtain ⟨a, b, c, d⟩ := s
    simp only
    have hcase : n = 0 ∨ n = 1 ∨ n = 2 := by omega
    rcases hcase with rfl | rfl | rfl
    · have hidx : ∀ w, (Instr.index 155 (.agg #[.int .u32 x.toNat, .int .i64 16, .int .i64 12, .int .u32 y.toNat, .int .i64 8, .int .i64 7]) (.int .i64 0)).run Tryz.prog w = .ok (.agg #[.int .u32 x.toNat, .int .i64 16, .int .i64 12]) w := fun _ => by kernel_rfl
      go_wp2_with fail
      rw [add3, xorU]
      refine (bits_RotateLeft32.calls _ _ _ _ (rotl16 _)).mono ?_
      rintro e' w2 ⟨rfl, ⟨⟨nd, rfl⟩⟩⟩
      go_wp2_with fail
      rw [add2, xorU]
      refine (bits_RotateLeft32.calls _ _ _ _ (rotl12 _)).mono ?_
      rintro e' w2 ⟨rfl, ⟨⟨nd2, rfl⟩⟩⟩
      have BK1 := Aside0.mk (blk_drewN (blk_alloc BK.out (.cells #[.int .u32 x.toNat, .int .i64 16, .int .i64 12] 154)) (nd + nd2))
      have HV1 := Aside0.mk (blk_drewN (blk_alloc HV.out (.cells #[.int .u32 x.toNat, .int .i64 16, .int .i64 12] 154)) (nd + nd2))
      have HB1 := Aside0.mk (pw_below_drewN (below_alloc HB.out (.cells #[.int .u32 x.toNat, .int .i64 16, .int .i64 12] 154)) (nd + nd2))
      clear BK HV HB
      go_wp2_with fail
      go_roundg 1
      case measure => have := HG.out; omega
      case rel => exact ⟨1, half (a, b, c, d) x 16 12, by rfl, by first | rfl | (rw [add3]; rfl), by first | rfl | (rw [add2]; rfl), by first | rfl | (rw [add2]; rfl), by first | rfl | (rw [add2]; rfl), by omega, ⟨by omega⟩, ⟨by rw [HS.out]; rfl⟩, BK1, HV1, HB1⟩
    · have hidx : ∀ w, (Instr.index 155 (.agg #[.int .u32 x.toNat, .int .i64 16, .int .i64 12, .int .u32 y.toNat, .int .i64 8, .int .i64 7]) (.int .i64 1)).run Tryz.prog w = .ok (.agg #[.int .u32 y.toNat, .int .i64 8, .int .i64 7]) w := fun _ => by kernel_rfl
      go_wp2_with fail
      rw [add3, xorU]
      refine (bits_RotateLeft32.calls _ _ _ _ (rotl8 _)).mono ?_
      rintro e' w2 ⟨rfl, ⟨⟨nd, rfl⟩⟩⟩
      go_wp2_with fail
      rw [add2, xorU]
      refine (bits_RotateLeft32.calls _ _ _ _ (rotl7 _)).mono ?_
      rintro e' w2 ⟨rfl, ⟨⟨nd2, rfl⟩⟩⟩
      have BK1 := Aside0.mk (blk_drewN (blk_alloc BK.out (.cells #[.int .u32 y.toNat, .int .i64 8, .int .i64 7] 154)) (nd + nd2))
      have HV1 := Aside0.mk (blk_drewN (blk_alloc HV.out (.cells #[.int .u32 y.toNat, .int .i64 8, .int .i64 7] 154)) (nd + nd2))
      have HB1 := Aside0.mk (pw_below_drewN (below_alloc HB.out (.cells #[.int .u32 y.toNat, .int .i64 8, .int .i64 7] 154)) (nd + nd2))
      clear BK HV HB
      go_wp2_with fail
      go_roundg 0
      case measure => have := HG.out; omega
      case rel => exact ⟨2, half (a, b, c, d) y 8 7, by rfl, by first | rfl | (rw [add3]; rfl), by first | rfl | (rw [add2]; rfl), by first | rfl | (rw [add2]; rfl), by first | rfl | (rw [add2]; rfl), by omega, ⟨by omega⟩, ⟨by rw [HS.out]; rfl⟩, BK1, HV1, HB1⟩
    · have hs : (a, b, c, d) = mixN (ui, uj, uk, ul) x y := HS.out
      have HS2 := Aside0.mk hs
      have hne : gb ≠ g := blk_ne BK.out HV.out (by decide)
      have hne' : g ≠ gb := fun e => hne e.symm
      have y0 := blk_cell BK.out 0
      have y1 := blk_cell BK.out 1
      have y2 := blk_cell BK.out 2
      have y3 := blk_cell BK.out 3
      simp only [List.getElem?_toArray, List.getElem?_cons_zero, List.getElem?_cons_succ] at y0 y1 y2 y3
      have zi := (blk_cell HV.out i).trans (cellsU_get v i (by omega))
      have zj := (blk_cell HV.out j).trans (cellsU_get v j (by omega))
      have zk := (blk_cell HV.out k).trans (cellsU_get v k (by omega))
      have zl := (blk_cell HV.out l).trans (cellsU_get v l (by omega))
      have fi := blk_frozen HV.out i
      have fj := blk_frozen HV.out j
      have fk := blk_frozen HV.out k
      have fl := blk_frozen HV.out l
      clear hs HS
      go_wp2_with fail
      go_region_held3 (fun wx => wx.cell? ⟨gb, 0, none⟩ = some (.int .i64 i) ∧ wx.cell? ⟨gb, 1, none⟩ = some (.int .i64 j) ∧ wx.cell? ⟨gb, 2, none⟩ = some (.int .i64 k) ∧ wx.cell? ⟨gb, 3, none⟩ = some (.int .i64 l)) (go_keep) (fail)
      go_wp2_with fail
      go_end0
      have e : mixU v i j k l x y = (((v.set i a).set j b).set k c).set l d := by
        unfold mixU
        rw [← HUi.out, ← HUj.out, ← HUk.out, ← HUl.out]
        simp only []
        rw [← HS2.out]
      rw [e]
      have h1 := blk_put HV.out i (.int .u32 (a.toNat : Int)) (cellsU_set v i a)
      have h2 := blk_put h1 j (.int .u32 (b.toNat : Int)) (cellsU_set _ j b)
      have h3 := blk_put h2 k (.int .u32 (c.toNat : Int)) (cellsU_set _ k c)
      have h4 := blk_put h3 l (.int .u32 (d.toNat : Int)) (cellsU_set _ l d)
      have hB0 : B ≤ w.heap.size := Nat.le_trans hB (Nat.le_of_lt HLT.out)
      exact ⟨⟨_, rfl⟩, h4, (((((HB.out.mono hB0).setCell (p := ⟨g, i, none⟩) hB _).setCell (p := ⟨g, j, none⟩) hB _).setCell (p := ⟨g, k, none⟩) hB _).setCell (p := ⟨g, l, none⟩) hB _).drew,
        (((((Kept.of_below HB.out (fun q => q = g)).setCell (p := ⟨g, i, none⟩) (.inl rfl) _).setCell (p := ⟨g, j, none⟩) (.inl rfl) _).setCell (p := ⟨g, k, none⟩) (.inl rfl) _).setCell (p := ⟨g, l, none⟩) (.inl rfl) _).drew⟩
end Go.Proofs.YtnnkenbcdepafaaGreatDoor.K
