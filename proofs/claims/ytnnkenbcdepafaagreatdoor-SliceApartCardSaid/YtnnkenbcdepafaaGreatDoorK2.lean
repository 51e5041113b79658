/- A block mixed in: package blake's take. Laws of no program, as package blake's walks ask them: append of a string as one step of a region; append of noughts behind a row. -/
import Derived.Test.YtnnkenbcdepafaaGreatDoorK1
import Derived.Laws.CopyOwn
import Derived.Lib.AppendStr
import Derived.Lib.AppendZeros
import Derived.Laws.OwnMore
namespace Go.Proofs.YtnnkenbcdepafaaGreatDoor.K
open Go.RowKit Go.Proofs.YtnnkenbcdepafaaGreatDoorW.PrintWords Go.Proofs.YtnnkenbcdepafaaGreatDoorW.PrintLast Go.Proofs.YtnnkenbcdepafaaGreatDoorW.PrintMore Go.Proofs.YtnnkenbcdepafaaGreatDoor.B
set_option linter.unusedVariables false
set_option linter.unusedSimpArgs false

/-- A hash in memory: its numbers, what is not mixed in yet, how many bytes were. -/
def hashA (h : List UInt32) (rest : Value) (gone : Nat) : Array Value := (h.map cellU ++ [rest, .int .u64 (gone : Int)]).toArray
theorem hashA_gone {h : List UInt32} (hl : h.length = 8) (rest : Value) (gone : Nat) : (hashA h rest gone)[9]? = some (.int .u64 (gone : Int)) := by
  simp [hashA, hl, List.getElem?_append_right]
theorem hashA_rest {h : List UInt32} (hl : h.length = 8) (rest : Value) (gone : Nat) : (hashA h rest gone)[8]? = some rest := by
  simp [hashA, hl, List.getElem?_append_right]
theorem hashA_h {h : List UInt32} (hl : h.length = 8) (rest : Value) (gone : Nat) (i : Nat) (hi : i < 8) : (hashA h rest gone)[i]? = some (.int .u32 ((getU h i).toNat : Int)) := by
  unfold hashA
  rw [List.getElem?_toArray, List.getElem?_append_left (by simp; omega), List.getElem?_map, List.getElem?_eq_getElem (by omega)]
  simp [cellU, getU, List.getElem?_eq_getElem (show i < h.length by omega)]
theorem hashA_set_gone {h : List UInt32} (hl : h.length = 8) (rest : Value) (gone t : Nat) : (hashA h rest gone).setIfInBounds 9 (.int .u64 (t : Int)) = hashA h rest t := by
  simp [hashA, List.set_append, hl]
theorem hashA_set_rest {h : List UInt32} (hl : h.length = 8) (rest r : Value) (gone : Nat) : (hashA h rest gone).setIfInBounds 8 r = hashA h r gone := by
  simp [hashA, List.set_append, hl]
theorem hashA_set_h {h : List UInt32} (hl : h.length = 8) (rest : Value) (gone i : Nat) (hi : i < 8) (x : UInt32) : (hashA h rest gone).setIfInBounds i (.int .u32 (x.toNat : Int)) = hashA (h.set i x) rest gone := by
  unfold hashA
  rw [List.setIfInBounds_toArray, List.set_append_left _ _ (by simp; omega), List.map_set]
  rfl
def mTo (b : List UInt8) (i : Nat) : List UInt32 := (wordsU b).take i ++ List.replicate (16 - i) 0
theorem mTo_length (b : List UInt8) (i : Nat) (h : i ≤ 16) : (mTo b i).length = 16 := by
  simp [mTo, wordsU_length]
  omega
theorem mTo_set (b : List UInt8) (i : Nat) (h : i < 16) : (mTo b i).set i (word b i) = mTo b (i + 1) := by
  apply List.ext_getElem?
  intro j
  have hw : ∀ j, (wordsU b)[j]? = if j < 16 then some (word b j) else none := by
    intro j
    unfold wordsU
    rw [List.getElem?_map]
    by_cases hj : j < 16
    · rw [List.getElem?_range hj, if_pos hj]
      rfl
    · rw [List.getElem?_eq_none (by simp; omega), if_neg hj]
      rfl
  unfold mTo
  rw [List.getElem?_set, List.getElem?_append, List.getElem?_append, List.length_append, List.length_take, List.length_take, List.length_replicate, wordsU_length]
  by_cases hj : i = j
  · subst hj
    rw [if_pos rfl, if_pos (by omega), if_pos (by omega), List.getElem?_take_of_lt (by omega), hw, if_pos h]
  · rw [if_neg hj]
    by_cases hlt : j < i
    · rw [if_pos (by omega), if_pos (by omega), List.getElem?_take_of_lt (by omega), List.getElem?_take_of_lt (by omega)]
    · rw [if_neg (by omega), if_neg (by omega), List.getElem?_replicate, List.getElem?_replicate]
      by_cases h16 : j < 16
      · rw [if_pos (by omega), if_pos (by omega)]
      · rw [if_neg (by omega), if_neg (by omega)]
theorem mTo_all (b : List UInt8) : mTo b 16 = wordsU b := by
  unfold mTo
  rw [List.take_of_length_le (by rw [wordsU_length]; omega)]
  simp

theorem wrapB (b : UInt8) : IntKind.u32.wrap (b.toNat : Int) = (b.toUInt32.toNat : Int) := by
  have := b.toNat_lt
  rw [IntKind.wrap_u32', UInt8.toNat_toUInt32]
  omega
theorem word_walk (b0 b1 b2 b3 : UInt8) : bits .or .u32 (bits .or .u32 (bits .or .u32 (IntKind.u32.wrap (b0.toNat : Int)) (IntKind.u32.wrap (IntKind.u32.wrap (b1.toNat : Int) * 256))) (IntKind.u32.wrap (IntKind.u32.wrap (b2.toNat : Int) * 65536))) (IntKind.u32.wrap (IntKind.u32.wrap (b3.toNat : Int) * 16777216))
    = ((b0.toUInt32 ||| (b1.toUInt32 <<< 8) ||| (b2.toUInt32 <<< 16) ||| (b3.toUInt32 <<< 24)).toNat : Int) := by
  have h1 := shlU b1.toUInt32 8 (by decide)
  have h2 := shlU b2.toUInt32 16 (by decide)
  have h3 := shlU b3.toUInt32 24 (by decide)
  rw [show (2 : Int) ^ 8 = 256 by decide] at h1
  rw [show (2 : Int) ^ 16 = 65536 by decide] at h2
  rw [show (2 : Int) ^ 24 = 16777216 by decide] at h3
  rw [wrapB, wrapB, wrapB, wrapB, h1, h2, h3, orU, orU, orU]
  rfl

theorem hashA_src {h : List UInt32} (hl : h.length = 8) (rest : Value) (gone : Nat) (j : Nat) (v : Value) (hv : (h.map cellU)[j]? = some v) : (hashA h rest gone)[j]? = some v := by
  unfold hashA
  rw [List.getElem?_toArray, List.getElem?_append_left (List.getElem?_eq_some_iff.1 hv).1]
  exact hv
theorem src_of_block {W : World} {g : Nat} {C : Array Value} {t : TypeId} {fr : Nat × Nat} (hb : W.heap[g]? = some (.cells C t fr)) (off : Nat) (cs : List Value) (hcs : ∀ j v, cs[j]? = some v → C[off + j]? = some v) :
    ∀ j v, cs[j]? = some v → W.cell? ((⟨g, off, none⟩ : Addr).add j) = some v := by
  intro j v hv
  rw [Addr.add_mid]
  exact (cell_of_row W g (off + j) C t fr hb).trans (hcs j v hv)
theorem own_kept {w W W2 : World} {S : Nat → Prop} {g : Nat} (h : Kept w W S) (hb : Below g W W2) (hg : w.heap.size ≤ g) : Kept w W2 S :=
  ⟨Nat.le_trans h.1 hb.size, fun i hi hn => (hb.block i (by omega)).trans (h.2 i hi hn)⟩
theorem splice_start {h : List UInt32} (hl : h.length = 8) : (splice (List.map cellU (mTo [] 0)) 0 (List.map cellU h)).toArray = cellsU (h ++ List.replicate 8 0) := by
  unfold splice cellsU
  rw [List.length_map, hl, List.map_append]
  rfl
theorem splice_first {h : List UInt32} (hl : h.length = 8) : (splice (List.map cellU (h ++ List.replicate 8 0)) 8 (List.map cellU ivU)).toArray = cellsU (h ++ ivU) := by
  unfold splice cellsU
  rw [List.map_append, List.take_left' (by rw [List.length_map, hl]), List.map_append, List.drop_eq_nil_of_le (by rw [List.length_append, List.length_map, List.length_map, hl]; decide), List.append_nil]
theorem ofU (t : Nat) : (t : Int) % 4294967296 = ((UInt32.ofNat t).toNat : Int) := by
  rw [UInt32.toNat_ofNat']
  omega
theorem ofU2 {t : Nat} (h : t < 18446744073709551616) : (t : Int) / 4294967296 = ((UInt32.ofNat (t / 4294967296)).toNat : Int) := by
  rw [UInt32.toNat_ofNat']
  omega
theorem notU (a : UInt32) : bits .xor .u32 IntKind.u32.max (a.toNat : Int) = ((~~~ a).toNat : Int) := by
  have e : (4294967295 : UInt32) ^^^ a = ~~~ a := by
    apply UInt32.eq_of_toBitVec_eq
    rw [UInt32.toBitVec_xor, UInt32.toBitVec_not]
    exact BitVec.allOnes_xor
  have h := xorU 4294967295 a
  rw [e] at h
  exact h
theorem getU_iv {h : List UInt32} (hl : h.length = 8) (i : Nat) (hi : i < 8) : getU (h ++ ivU) (8 + i) = getU ivU i := by
  unfold getU
  rw [List.getD_eq_getElem?_getD, List.getD_eq_getElem?_getD, List.getElem?_append_right (by omega), hl, Nat.add_sub_cancel_left]
theorem getU_set_ne {v : List UInt32} {i j : Nat} {x : UInt32} (h : i ≠ j) : getU (v.set i x) j = getU v j := by
  unfold getU
  rw [List.getD_eq_getElem?_getD, List.getD_eq_getElem?_getD, List.getElem?_set_ne h]
theorem start_false {h : List UInt32} (hl : h.length = 8) (t : Nat) : ((h ++ ivU).set 12 (getU ivU 4 ^^^ UInt32.ofNat t)).set 13 (getU ivU 5 ^^^ UInt32.ofNat (t / 4294967296)) = startU h t false := by
  rw [List.set_append_right _ _ (by omega), List.set_append_right _ _ (by omega), hl]
  rfl
theorem start_true {h : List UInt32} (hl : h.length = 8) (t : Nat) : (((h ++ ivU).set 12 (getU ivU 4 ^^^ UInt32.ofNat t)).set 13 (getU ivU 5 ^^^ UInt32.ofNat (t / 4294967296))).set 14 (~~~ (getU ivU 6)) = startU h t true := by
  rw [List.set_append_right _ _ (by omega), List.set_append_right _ _ (by omega), List.set_append_right _ _ (by omega), hl]
  rfl
theorem rowA_size {r : Nat} (h : r < 10) : (rowA r).size = 16 := by
  have : r = 0 ∨ r = 1 ∨ r = 2 ∨ r = 3 ∨ r = 4 ∨ r = 5 ∨ r = 6 ∨ r = 7 ∨ r = 8 ∨ r = 9 := by omega
  rcases this with rfl | rfl | rfl | rfl | rfl | rfl | rfl | rfl | rfl | rfl <;> rfl
theorem row_info {r : Nat} (h : r < 10) : (Tryz.prog.info? 131).map (·.size) = some (rowA r).size := by
  rw [rowA_size h]
  kernel_rfl
theorem row_size {r : Nat} (h : r < 10) : (Array.replicate 16 (Value.int .u8 0)).size = (rowA r).size := by
  rw [rowA_size h]
  rfl
theorem row_one {r : Nat} (h : r < 10) : (rowA r).all (·.oneCell') = true :=
  all_oneCell_toArray (fun v hv => by
    obtain ⟨x, _, rfl⟩ := List.mem_map.1 hv
    rfl)
theorem at4_ok {i : Nat} (h : i < 8) : at4 i 0 < 16 ∧ at4 i 1 < 16 ∧ at4 i 2 < 16 ∧ at4 i 3 < 16 ∧ at4 i 0 ≠ at4 i 1 ∧ at4 i 0 ≠ at4 i 2 ∧ at4 i 0 ≠ at4 i 3 ∧ at4 i 1 ≠ at4 i 2 ∧ at4 i 1 ≠ at4 i 3 ∧ at4 i 2 ≠ at4 i 3 := by
  have : i = 0 ∨ i = 1 ∨ i = 2 ∨ i = 3 ∨ i = 4 ∨ i = 5 ∨ i = 6 ∨ i = 7 := by omega
  rcases this with rfl | rfl | rfl | rfl | rfl | rfl | rfl | rfl <;> decide
theorem step_keep {W W' : World} {ga gr gm gv a0 a1 a2 a3 k0 k1 s0 s1 : Nat} {x y : UInt32} (h : (W.cell? ⟨ga, 0, none⟩ = some (.int .i64 a0) ∧ W.cell? ⟨ga, 1, none⟩ = some (.int .i64 a1) ∧ W.cell? ⟨ga, 2, none⟩ = some (.int .i64 a2) ∧ W.cell? ⟨ga, 3, none⟩ = some (.int .i64 a3) ∧ W.cell? ⟨gr, k0, none⟩ = some (.int .u8 s0) ∧ W.cell? ⟨gr, k1, none⟩ = some (.int .u8 s1) ∧ W.cell? ⟨gm, s0, none⟩ = some (.int .u32 x.toNat) ∧ W.cell? ⟨gm, s1, none⟩ = some (.int .u32 y.toNat))) (hk : Kept W W' (fun q => q = gv)) (h1 : Aside0 (ga ≠ gv)) (h2 : Aside0 (gr ≠ gv)) (h3 : Aside0 (gm ≠ gv)) : (W'.cell? ⟨ga, 0, none⟩ = some (.int .i64 a0) ∧ W'.cell? ⟨ga, 1, none⟩ = some (.int .i64 a1) ∧ W'.cell? ⟨ga, 2, none⟩ = some (.int .i64 a2) ∧ W'.cell? ⟨ga, 3, none⟩ = some (.int .i64 a3) ∧ W'.cell? ⟨gr, k0, none⟩ = some (.int .u8 s0) ∧ W'.cell? ⟨gr, k1, none⟩ = some (.int .u8 s1) ∧ W'.cell? ⟨gm, s0, none⟩ = some (.int .u32 x.toNat) ∧ W'.cell? ⟨gm, s1, none⟩ = some (.int .u32 y.toNat)) := by
  obtain ⟨c0, c1, c2, c3, d0, d1, e0, e1⟩ := h
  exact ⟨cell_kept c0 hk h1.out, cell_kept c1 hk h1.out, cell_kept c2 hk h1.out, cell_kept c3 hk h1.out, cell_kept d0 hk h2.out, cell_kept d1 hk h2.out, cell_kept e0 hk h3.out, cell_kept e1 hk h3.out⟩
theorem step_drew {W : World} {ga gr gm a0 a1 a2 a3 k0 k1 s0 s1 : Nat} {x y : UInt32} (h : (W.cell? ⟨ga, 0, none⟩ = some (.int .i64 a0) ∧ W.cell? ⟨ga, 1, none⟩ = some (.int .i64 a1) ∧ W.cell? ⟨ga, 2, none⟩ = some (.int .i64 a2) ∧ W.cell? ⟨ga, 3, none⟩ = some (.int .i64 a3) ∧ W.cell? ⟨gr, k0, none⟩ = some (.int .u8 s0) ∧ W.cell? ⟨gr, k1, none⟩ = some (.int .u8 s1) ∧ W.cell? ⟨gm, s0, none⟩ = some (.int .u32 x.toNat) ∧ W.cell? ⟨gm, s1, none⟩ = some (.int .u32 y.toNat))) : (W.drew.cell? ⟨ga, 0, none⟩ = some (.int .i64 a0) ∧ W.drew.cell? ⟨ga, 1, none⟩ = some (.int .i64 a1) ∧ W.drew.cell? ⟨ga, 2, none⟩ = some (.int .i64 a2) ∧ W.drew.cell? ⟨ga, 3, none⟩ = some (.int .i64 a3) ∧ W.drew.cell? ⟨gr, k0, none⟩ = some (.int .u8 s0) ∧ W.drew.cell? ⟨gr, k1, none⟩ = some (.int .u8 s1) ∧ W.drew.cell? ⟨gm, s0, none⟩ = some (.int .u32 x.toNat) ∧ W.drew.cell? ⟨gm, s1, none⟩ = some (.int .u32 y.toNat)) := h
theorem row_get {r j : Nat} (h : r < 10) (hj : j < 16) : (rowA r)[j]? = some (.int .u8 (sig r j : Int)) := by
  have hr : (rowsL.getD r []).length = 16 := by
    have : r = 0 ∨ r = 1 ∨ r = 2 ∨ r = 3 ∨ r = 4 ∨ r = 5 ∨ r = 6 ∨ r = 7 ∨ r = 8 ∨ r = 9 := by omega
    rcases this with rfl | rfl | rfl | rfl | rfl | rfl | rfl | rfl | rfl | rfl <;> rfl
  unfold rowA sig
  generalize rowsL.getD r [] = L at *
  rw [List.getElem?_toArray, List.getElem?_map, List.getD_eq_getElem?_getD, List.getElem?_eq_getElem (by omega)]
  rfl
theorem sig_lt {r j : Nat} (h : r < 10) (hj : j < 16) : sig r j < 16 := by
  have h1 : ∀ r < 10, ∀ j < 16, sig r j < 16 := by decide +kernel
  exact h1 r h j hj
def eTo (h v : List UInt32) : Nat → List UInt32
  | 0 => h
  | i + 1 => (eTo h v i).set i (getU h i ^^^ (getU v i ^^^ getU v (i + 8)))
theorem eTo_length {h v : List UInt32} (hl : h.length = 8) : ∀ i, (eTo h v i).length = 8
  | 0 => hl
  | i + 1 => by rw [eTo, List.length_set]; exact eTo_length hl i
theorem eTo_get {h v : List UInt32} (hl : h.length = 8) {i j : Nat} (hij : i ≤ j) : getU (eTo h v i) j = getU h j := by
  induction i with
  | zero => rfl
  | succ i ih => rw [eTo, getU_set_ne (by omega), ih (by omega)]
theorem eTo_all {h v : List UInt32} (hl : h.length = 8) : eTo h v 8 = endU h v := by
  match h, hl with
  | [a, b, c, d, e, f, g, i], _ => rfl
theorem oneCell_U (h : List UInt32) : ∀ v ∈ h.map cellU, v.oneCell' = true := by
  intro v hv
  obtain ⟨x, _, rfl⟩ := List.mem_map.1 hv
  rfl

set_option maxHeartbeats 4000000 in
set_option maxRecDepth 100000 in
theorem take_calls (B gh gs o cap : Nat) (h : List UInt32) (rest : Value) (gone many : Nat) (bl : List UInt8) (last : Bool) (w : World) (hH : w.heap[gh]? = some (.cells (hashA h rest gone) 102 (0, 0))) (hl : h.length = 8) (hB : B ≤ gh)
    (hb : ∀ i, i < 64 → w.cell? ⟨gs, o + i, none⟩ = some (.int .u8 ((bl.getD i 0).toNat : Int))) (hne : gs ≠ gh) (hg : gone + many < 18446744073709551616) (hm : many ≤ 64) :
    Calls Tryz.prog 70 #[.pointer (some ⟨gh, 0, none⟩), .slice (some ⟨gs, o, none⟩) 64 cap, .int .i64 many, .bool last] w fun e w' =>
      (∃ r, e = .returned r) ∧ w'.heap[gh]? = some (.cells (hashA (blkU h bl (gone + many) last) rest (gone + many)) 102 (0, 0)) ∧ Below B w w' ∧ Kept w w' (fun q => q = gh) := by
  have HH := Aside0.mk hH
  have HBy := Aside0.mk hb
  have HB := Aside0.mk (Below.refl w.heap.size w)
  have hz := (zero_of_info (P := Tryz.prog) (t := 130) (v := .agg (cellsU (mTo [] 0))) (n := 16) (by kernel_rfl)).1
  clear hH hb
  go_enter Tryz.func70, Tryz.ntmps70
  go_wp2_with fail
  have HM := Aside0.mk (show (w.alloc (.cells (cellsU (mTo [] 0)) 130)).heap[w.heap.size]? = some (.cells (cellsU (mTo bl 0)) 130 (0, 0)) from heap_alloc_new w _)
  have HB1 := Aside0.mk (below_alloc HB.out (.cells (cellsU (mTo [] 0)) 130))
  clear HB hz
  go_loopg [17] 16 (fun gk v17 w' => ∃ (i : Nat), v17 = .int .i64 (i : Int) ∧ i ≤ 16 ∧ Aside0 (16 - i ≤ gk) ∧ Aside0 (w'.heap[w.heap.size]? = some (.cells (cellsU (mTo bl i)) 130 (0, 0))) ∧ Aside0 (Below w.heap.size w w'))
  case atStart => exact ⟨0, by rfl, by omega, ⟨by omega⟩, HM, HB1⟩
  case round =>
    clear HM HB1
    obtain ⟨i, rfl, hi, HG, HM, HB⟩ := hrel
    by_cases hlt : i < 16
    · have hb16 : decide ((i : Int) < 16) = true := decide_eq_true (by omega)
      have hgs : ∀ j, j < 64 → wr.cell? ⟨gs, o + j, none⟩ = some (.int .u8 ((bl.getD j 0).toNat : Int)) := fun j hj => by
        have h1 := HBy.out j hj
        have hlt := World.block_lt_of_cell? w _ h1
        rw [HB.out.cell hlt]
        exact h1
      obtain ⟨k0, e0⟩ : ∃ k, k = 4 * i := ⟨_, rfl⟩
      obtain ⟨k1, e1⟩ : ∃ k, k = 4 * i + 1 := ⟨_, rfl⟩
      obtain ⟨k2, e2⟩ : ∃ k, k = 4 * i + 2 := ⟨_, rfl⟩
      obtain ⟨k3, e3⟩ : ∃ k, k = 4 * i + 3 := ⟨_, rfl⟩
      have y0 := hgs k0 (by omega)
      have y1 := hgs k1 (by omega)
      have y2 := hgs k2 (by omega)
      have y3 := hgs k3 (by omega)
      obtain ⟨b0, E0⟩ : ∃ b, b = bl.getD k0 0 := ⟨_, rfl⟩
      obtain ⟨b1, E1⟩ : ∃ b, b = bl.getD k1 0 := ⟨_, rfl⟩
      obtain ⟨b2, E2⟩ : ∃ b, b = bl.getD k2 0 := ⟨_, rfl⟩
      obtain ⟨b3, E3⟩ : ∃ b, b = bl.getD k3 0 := ⟨_, rfl⟩
      rw [← E0] at y0
      rw [← E1] at y1
      rw [← E2] at y2
      rw [← E3] at y3
      have zi := (blk_cell HM.out i).trans (cellsU_get (mTo bl i) i (by rw [mTo_length _ _ hi]; exact hlt))
      have fi := blk_frozen HM.out i
      have hw : wr.heap.size > w.heap.size := blk_lt HM.out
      have hgsne : gs ≠ w.heap.size := fun e => by
        have := World.block_lt_of_cell? w _ (HBy.out 0 (by omega))
        simp only at this
        omega
      have hgsne' : w.heap.size ≠ gs := fun e => hgsne e.symm
      have a0 : (0 : Int) ≤ (i : Int) := by omega
      have a1 : (i : Int) < 16 := by omega
      have q0 : IntKind.i64.wrap (4 * (i : Int)) = (k0 : Int) := by rw [IntKind.wrap_i64]; omega
      have q1 : IntKind.i64.wrap ((k0 : Int) + 1) = (k1 : Int) := by rw [IntKind.wrap_i64]; omega
      have q2 : IntKind.i64.wrap ((k0 : Int) + 2) = (k2 : Int) := by rw [IntKind.wrap_i64]; omega
      have q3 : IntKind.i64.wrap ((k0 : Int) + 3) = (k3 : Int) := by rw [IntKind.wrap_i64]; omega
      have p0 : (k0 : Int) < 64 := by omega
      have p1 : (k1 : Int) < 64 := by omega
      have p2 : (k2 : Int) < 64 := by omega
      have p3 : (k3 : Int) < 64 := by omega
      have EE := Aside0.mk (And.intro (And.intro e0 e1) (And.intro e2 e3))
      have FF := Aside0.mk (And.intro (And.intro E0 E1) (And.intro E2 E3))
      clear hgs e0 e1 e2 e3 E0 E1 E2 E3
      go_wp2_with fail
      go_region_held3 (fun wx => wx.cell? ⟨gs, o + k0, none⟩ = some (.int .u8 (b0.toNat : Int)) ∧ wx.cell? ⟨gs, o + k1, none⟩ = some (.int .u8 (b1.toNat : Int)) ∧ wx.cell? ⟨gs, o + k2, none⟩ = some (.int .u8 (b2.toNat : Int)) ∧ wx.cell? ⟨gs, o + k3, none⟩ = some (.int .u8 (b3.toNat : Int))) (go_keep) (fail)
      rw [word_walk]
      have ew : b0.toUInt32 ||| (b1.toUInt32 <<< 8) ||| (b2.toUInt32 <<< 16) ||| (b3.toUInt32 <<< 24) = word bl i := by
        obtain ⟨⟨e0, e1⟩, e2, e3⟩ := EE.out
        obtain ⟨⟨E0, E1⟩, E2, E3⟩ := FF.out
        rw [E0, E1, E2, E3, e0, e1, e2, e3]
        rfl
      rw [ew]
      have HM1 := Aside0.mk (blk_drew (blk_put HM.out i (.int .u32 ((word bl i).toNat : Int)) ((cellsU_set _ i _).trans (congrArg cellsU (mTo_set bl i hlt)))))
      have HB1 := Aside0.mk ((HB.out.setCell (p := ⟨w.heap.size, i, none⟩) (Nat.le_refl _) (.int .u32 ((word bl i).toNat : Int))).drew)
      clear HM HB y0 y1 y2 y3 zi fi q0 q1 q2 q3 hw ew
      go_wp2_with fail
      go_roundg (16 - (i + 1))
      case measure => have := HG.out; omega
      case rel => exact ⟨i + 1, by go_num, by omega, ⟨by omega⟩, HM1, HB1⟩
    · have hi16 : i = 16 := by omega
      subst hi16
      have hb16 : decide (((16 : Nat) : Int) < 16) = false := by decide
      have HH1 := Aside0.mk ((HB.out.block gh (blk_lt HH.out)).trans HH.out)
      have HLT := Aside0.mk (blk_lt HH.out)
      have HB1 := Aside0.mk (HB.out.mono (Nat.le_trans hB (Nat.le_of_lt (blk_lt HH.out))))
      have HK1 := Aside0.mk (Kept.of_below HB.out (fun q => q = gh))
      have HS0 := Aside0.mk (below_size HB.out)
      rw [mTo_all] at HM
      clear HH HB HBy
      have g0 := (blk_cell HH1.out 9).trans (hashA_gone hl rest gone)
      have f0 := blk_frozen HH1.out 9
      have q0 : IntKind.u64.wrap (many : Int) = (many : Int) := by rw [IntKind.wrap_u64]; omega
      have q1 : IntKind.u64.wrap ((gone : Int) + (many : Int)) = ((gone + many : Nat) : Int) := by rw [IntKind.wrap_u64]; omega
      obtain ⟨tt, ht⟩ : ∃ t, t = gone + many := ⟨_, rfl⟩
      rw [← ht] at q1
      have HT := Aside0.mk ht
      have htl : tt < 18446744073709551616 := by omega
      clear ht
      have hz := (zero_of_info (P := Tryz.prog) (t := 130) (v := .agg (cellsU (mTo [] 0))) (n := 16) (by kernel_rfl)).1
      go_wp2_with fail
      have hsz : (wr.setCell ⟨gh, 9, none⟩ (.int .u64 (tt : Int))).heap.size = wr.heap.size := by simp [World.setCell]
      have HH2 := Aside0.mk (blk_alloc (blk_put HH1.out 9 (.int .u64 (tt : Int)) (hashA_set_gone hl rest gone tt)) (.cells (cellsU (mTo [] 0)) 130))
      have HM2 := Aside0.mk (blk_alloc (blk_far HM.out (p := ⟨gh, 9, none⟩) (Nat.ne_of_gt HLT.out) (.int .u64 (tt : Int))) (.cells (cellsU (mTo [] 0)) 130))
      have HV2 := Aside0.mk (blk_new (wr.setCell ⟨gh, 9, none⟩ (.int .u64 (tt : Int))) (.cells (cellsU (mTo [] 0)) 130))
      have HB2 := Aside0.mk (((HB1.out.setCell (p := ⟨gh, 9, none⟩) hB (.int .u64 (tt : Int)))).alloc (by rw [hsz]; exact Nat.le_trans hB (Nat.le_of_lt (Nat.lt_of_lt_of_le HLT.out HS0.out))) (.cells (cellsU (mTo [] 0)) 130))
      have HK2 := Aside0.mk ((HK1.out.setCell (p := ⟨gh, 9, none⟩) (.inl rfl) (.int .u64 (tt : Int))).alloc (.cells (cellsU (mTo [] 0)) 130))
      rw [hsz] at HV2
      clear hsz g0 f0 q0 q1 HH1 HB1 HK1
      generalize (wr.setCell ⟨gh, 9, none⟩ (.int .u64 (tt : Int))).alloc (.cells (cellsU (mTo [] 0)) 130) = wa at *
      have HLM := Aside0.mk (blk_lt HM.out)
      clear HM HG
      obtain ⟨gv, hgv⟩ : ∃ g, g = wr.heap.size := ⟨_, rfl⟩
      rw [← hgv] at HV2 HS0 HLM
      rw [← hgv]
      clear hgv
      obtain ⟨gm, hgm⟩ : ∃ g, g = w.heap.size := ⟨_, rfl⟩
      rw [← hgm] at HM2 HLM HLT HS0
      rw [← hgm]
      have HGM := Aside0.mk hgm
      clear hgm
      go_region_law (refine step_copy_splice rfl (.tmp 65) (.tmp 69) 104 104 rfl 99 Tryz.underlying104 (by kernel_rfl) _ _ _ _ _ _ rfl rfl gv 0 ((mTo [] 0).map cellU) 130 ?hg (h.map cellU) ?hn ?hpos ?hfit ?h1 gv wa ?hbel (Nat.le_refl _) ?_; (case hg => repeat (first | exact HV2.out | refine blk_drew ?_ | refine blk_drewN ?_ _)); (case hn => (rw [List.length_map, hl]; rfl)); (case hpos => exact fun _ => ⟨rfl, _, rfl, src_of_block (by repeat (first | exact HH2.out | refine blk_drew ?_ | refine blk_drewN ?_ _)) 0 _ (fun j v hv => by rw [Nat.zero_add]; exact hashA_src hl rest tt j v hv)⟩); (case hfit => (rw [List.length_map, List.length_map, hl, mTo_length _ _ (by omega)]; omega)); (case h1 => exact oneCell_U h); (case hbel => repeat (first | exact Below.refl _ _ | apply pw_below_drewN | apply below_drew1)); intro wb HG1 hb1)
      rw [splice_start hl] at HG1
      have HV3 := Aside0.mk HG1.out
      have HH3 := Aside0.mk ((hb1.block gh (Nat.lt_trans HLT.out HLM.out)).trans HH2.out)
      have HM3 := Aside0.mk ((hb1.block gm HLM.out).trans HM2.out)
      have HB3 := Aside0.mk (HB2.out.trans (hb1.mono (Nat.le_trans hB (Nat.le_of_lt (Nat.lt_trans HLT.out HLM.out)))))
      have HK3 := Aside0.mk (own_kept HK2.out hb1 (by rw [← HGM.out]; exact HS0.out))
      clear HG1 hb1 HV2 HH2 HM2 HB2 HK2
      go_wp2_with fail
      refine (firsts_calls _).mono ?_
      rintro e' wc ⟨rfl, hb2⟩
      have HV4 := Aside0.mk (blk_alloc (blk_below HV3.out hb2) (.cells ivA 100))
      have HH4 := Aside0.mk (blk_alloc (blk_below HH3.out hb2) (.cells ivA 100))
      have HM4 := Aside0.mk (blk_alloc (blk_below HM3.out hb2) (.cells ivA 100))
      have HF4 := Aside0.mk (blk_new wc (.cells ivA 100))
      have HGF := Aside0.mk (Nat.lt_of_lt_of_le (blk_lt HV3.out) hb2.size)
      have HB4 := Aside0.mk (((HB3.out.trans (hb2.mono (Nat.le_trans hB (Nat.le_of_lt (blk_lt HH3.out)))))).alloc (Nat.le_trans (Nat.le_trans hB (Nat.le_of_lt (blk_lt HH3.out))) hb2.size) (.cells ivA 100))
      have HK4 := Aside0.mk ((HK3.out.below hb2).alloc (.cells ivA 100))
      clear hb2 HV3 HH3 HM3 HB3 HK3
      go_wp2_with (first | (refine wpList_store_row rfl 100 (.tmp 11) (.tmp 71) rfl wc.heap.size ivA rfl rfl 100 _ (heap_alloc_new wc _) (by kernel_rfl) (by kernel_rfl) (by kernel_rfl) ?_; rw [setRow_new]; simp only [Act.put]))
      generalize wc.alloc (.cells ivA 100) = wd at *
      obtain ⟨gf, hgf⟩ : ∃ g, g = wc.heap.size := ⟨_, rfl⟩
      rw [← hgf] at HF4 HGF
      rw [← hgf]
      clear hgf
      go_region_law (refine step_copy_splice rfl (.tmp 72) (.tmp 73) 104 104 rfl 99 Tryz.underlying104 (by kernel_rfl) _ _ _ _ _ _ rfl rfl gv 8 ((h ++ List.replicate 8 0).map cellU) 130 ?hg (ivU.map cellU) ?hn ?hpos ?hfit ?h1 gv wd ?hbel (Nat.le_refl _) ?_; (case hg => repeat (first | exact HV4.out | refine blk_drew ?_ | refine blk_drewN ?_ _)); (case hn => rfl); (case hpos => exact fun _ => ⟨rfl, _, rfl, src_of_block (C := ivA) (by repeat (first | exact HF4.out | refine blk_drew ?_ | refine blk_drewN ?_ _)) 0 _ (fun j v hv => by rw [Nat.zero_add]; show (List.map cellU ivU).toArray[j]? = some v; rw [List.getElem?_toArray]; exact hv)⟩); (case hfit => (rw [List.length_map, List.length_map, List.length_append, hl]; decide)); (case h1 => exact oneCell_U ivU); (case hbel => repeat (first | exact Below.refl _ _ | apply pw_below_drewN | apply below_drew1)); intro we HG1 hb1)
      rw [splice_first hl] at HG1
      have HV5 := Aside0.mk HG1.out
      have HH5 := Aside0.mk ((hb1.block gh (Nat.lt_trans HLT.out HLM.out)).trans HH4.out)
      have HM5 := Aside0.mk ((hb1.block gm HLM.out).trans HM4.out)
      have HB5 := Aside0.mk (HB4.out.trans (hb1.mono (Nat.le_trans hB (Nat.le_of_lt (Nat.lt_trans HLT.out HLM.out)))))
      have HK5 := Aside0.mk (own_kept HK4.out hb1 (by rw [← HGM.out]; exact HS0.out))
      clear HG1 hb1 HV4 HH4 HM4 HB4 HK4 HF4 HGF
      have hl16 : (h ++ ivU).length = 16 := by rw [List.length_append, hl]; rfl
      have z12 := (blk_cell HV5.out 12).trans (cellsU_get (h ++ ivU) 12 (by omega))
      have f12 := blk_frozen HV5.out 12
      have g9 := (blk_cell HH5.out 9).trans (hashA_gone hl rest tt)
      go_wp2_with fail
      go_region
      rw [ofU, xorU, getU_iv hl 4 (by decide)]
      have HV6 := Aside0.mk (blk_drew (blk_put HV5.out 12 (.int .u32 ((getU ivU 4 ^^^ UInt32.ofNat tt).toNat : Int)) (cellsU_set _ 12 _)))
      have HH6 := Aside0.mk (blk_drew (blk_far HH5.out (p := ⟨gv, 12, none⟩) (Nat.ne_of_lt (Nat.lt_trans HLT.out HLM.out)) (.int .u32 ((getU ivU 4 ^^^ UInt32.ofNat tt).toNat : Int))))
      have HM6 := Aside0.mk (blk_drew (blk_far HM5.out (p := ⟨gv, 12, none⟩) (Nat.ne_of_lt HLM.out) (.int .u32 ((getU ivU 4 ^^^ UInt32.ofNat tt).toNat : Int))))
      have HB6 := Aside0.mk ((HB5.out.setCell (p := ⟨gv, 12, none⟩) (Nat.le_trans hB (Nat.le_of_lt (Nat.lt_trans HLT.out HLM.out))) (.int .u32 ((getU ivU 4 ^^^ UInt32.ofNat tt).toNat : Int))).drew)
      have HK6 := Aside0.mk ((HK5.out.setCell (p := ⟨gv, 12, none⟩) (.inr (by rw [← HGM.out]; exact HS0.out)) (.int .u32 ((getU ivU 4 ^^^ UInt32.ofNat tt).toNat : Int))).drew)
      clear z12 f12 g9 HV5 HH5 HM5 HB5 HK5
      generalize (we.setCell ⟨gv, 12, none⟩ (.int .u32 ((getU ivU 4 ^^^ UInt32.ofNat tt).toNat : Int))).drew = wf at *
      have z13 := (blk_cell HV6.out 13).trans (cellsU_get ((h ++ ivU).set 12 (getU ivU 4 ^^^ UInt32.ofNat tt)) 13 (by rw [List.length_set]; omega))
      rw [getU_set_ne (by decide), getU_iv hl 5 (by decide)] at z13
      have f13 := blk_frozen HV6.out 13
      have g9 := (blk_cell HH6.out 9).trans (hashA_gone hl rest tt)
      go_wp2_with fail
      go_region
      rw [ofU2 htl, xorU]
      have HV7 := Aside0.mk (blk_drew (blk_put HV6.out 13 (.int .u32 ((getU ivU 5 ^^^ UInt32.ofNat (tt / 4294967296)).toNat : Int)) (cellsU_set _ 13 _)))
      have HH7 := Aside0.mk (blk_drew (blk_far HH6.out (p := ⟨gv, 13, none⟩) (Nat.ne_of_lt (Nat.lt_trans HLT.out HLM.out)) (.int .u32 ((getU ivU 5 ^^^ UInt32.ofNat (tt / 4294967296)).toNat : Int))))
      have HM7 := Aside0.mk (blk_drew (blk_far HM6.out (p := ⟨gv, 13, none⟩) (Nat.ne_of_lt HLM.out) (.int .u32 ((getU ivU 5 ^^^ UInt32.ofNat (tt / 4294967296)).toNat : Int))))
      have HB7 := Aside0.mk ((HB6.out.setCell (p := ⟨gv, 13, none⟩) (Nat.le_trans hB (Nat.le_of_lt (Nat.lt_trans HLT.out HLM.out))) (.int .u32 ((getU ivU 5 ^^^ UInt32.ofNat (tt / 4294967296)).toNat : Int))).drew)
      have HK7 := Aside0.mk ((HK6.out.setCell (p := ⟨gv, 13, none⟩) (.inr (by rw [← HGM.out]; exact HS0.out)) (.int .u32 ((getU ivU 5 ^^^ UInt32.ofNat (tt / 4294967296)).toNat : Int))).drew)
      clear z13 f13 g9 HV6 HH6 HM6 HB6 HK6
      generalize (wf.setCell ⟨gv, 13, none⟩ (.int .u32 ((getU ivU 5 ^^^ UInt32.ofNat (tt / 4294967296)).toNat : Int))).drew = wg at *
      go_upto_if 94 with fail
      go_cut [] (fun wx => Aside0 (wx.heap[gv]? = some (.cells (cellsU (startU h tt last)) 130 (0, 0))) ∧ Aside0 (wx.heap[gh]? = some (.cells (hashA h rest tt) 102 (0, 0))) ∧ Aside0 (wx.heap[gm]? = some (.cells (cellsU (wordsU bl)) 130 (0, 0))) ∧ Aside0 (Below B w wx) ∧ Aside0 (Kept w wx (fun q => q = gh)))
      case first =>
        cases last with
        | false =>
          go_wp2_with fail
          go_meet
          case rel => exact ⟨⟨by rw [← start_false hl]; exact HV7.out⟩, HH7, HM7, HB7, HK7⟩
        | true =>
          have hl16' : (((h ++ ivU).set 12 (getU ivU 4 ^^^ UInt32.ofNat tt)).set 13 (getU ivU 5 ^^^ UInt32.ofNat (tt / 4294967296))).length = 16 := by rw [List.length_set, List.length_set]; exact hl16
          have z14 := (blk_cell HV7.out 14).trans (cellsU_get _ 14 (by omega))
          rw [getU_set_ne (by decide), getU_set_ne (by decide), getU_iv hl 6 (by decide)] at z14
          have f14 := blk_frozen HV7.out 14
          go_wp2_with fail
          rw [notU]
          go_meet
          case rel => exact ⟨⟨by rw [← start_true hl]; exact blk_put HV7.out 14 (.int .u32 ((~~~ (getU ivU 6)).toNat : Int)) (cellsU_set _ 14 _)⟩, ⟨blk_far HH7.out (p := ⟨gv, 14, none⟩) (Nat.ne_of_lt (Nat.lt_trans HLT.out HLM.out)) _⟩, ⟨blk_far HM7.out (p := ⟨gv, 14, none⟩) (Nat.ne_of_lt HLM.out) _⟩, ⟨HB7.out.setCell (p := ⟨gv, 14, none⟩) (Nat.le_trans hB (Nat.le_of_lt (Nat.lt_trans HLT.out HLM.out))) _⟩, ⟨HK7.out.setCell (p := ⟨gv, 14, none⟩) (.inr (by rw [← HGM.out]; exact HS0.out)) _⟩⟩
      case rest =>
        clear HV7 HH7 HM7 HB7 HK7
        obtain ⟨HV, HH, HM, HB, HK⟩ := hcut
        go_wp2_with fail
        refine (rows_calls _).mono ?_
        rintro e' wb ⟨rfl, hb⟩
        have HV1 := Aside0.mk (blk_below HV.out hb)
        have HH1 := Aside0.mk (blk_below HH.out hb)
        have HM1 := Aside0.mk (blk_below HM.out hb)
        have HB1 := Aside0.mk (HB.out.trans (hb.mono (Nat.le_trans hB (Nat.le_of_lt (blk_lt HH.out)))))
        have HK1 := Aside0.mk (HK.out.below hb)
        clear hb HV HH HM HB HK
        go_wp2_with fail
        go_loopg [100] 10 (fun gk v100 wx => ∃ (r : Nat), v100 = .int .i64 (r : Int) ∧ r ≤ 10 ∧ Aside0 (10 - r ≤ gk) ∧ Aside0 (wx.heap[gv]? = some (.cells (cellsU (roundTo (wordsU bl) (startU h tt last) r)) 130 (0, 0))) ∧ Aside0 (wx.heap[gh]? = some (.cells (hashA h rest tt) 102 (0, 0))) ∧ Aside0 (wx.heap[gm]? = some (.cells (cellsU (wordsU bl)) 130 (0, 0))) ∧ Aside0 (Below B w wx) ∧ Aside0 (Kept w wx (fun q => q = gh)))
        case atStart => exact ⟨0, by rfl, by omega, ⟨by omega⟩, HV1, HH1, HM1, HB1, HK1⟩
        case round =>
          clear HV1 HH1 HM1 HB1 HK1
          obtain ⟨r, rfl, hr, HG, HV, HH, HM, HB, HK⟩ := hrel
          by_cases hlt : r < 10
          · have hb10 : decide ((r : Int) < 10) = true := decide_eq_true (by omega)
            have hidx : ∀ w, (Instr.index 132 (.agg rowsA) (.int .i64 (r : Int))).run Tryz.prog w = .ok (.agg (rowA r)) w := by
              have : r = 0 ∨ r = 1 ∨ r = 2 ∨ r = 3 ∨ r = 4 ∨ r = 5 ∨ r = 6 ∨ r = 7 ∨ r = 8 ∨ r = 9 := by omega
              rcases this with rfl | rfl | rfl | rfl | rfl | rfl | rfl | rfl | rfl | rfl <;> (intro w; kernel_rfl)
            have hz := (zero_of_info (P := Tryz.prog) (t := 131) (v := .agg (Array.replicate 16 (.int .u8 0))) (n := 16) (by kernel_rfl)).1
            go_wp2_with (first | (refine wpList_store_row rfl 131 (.tmp 13) (.tmp 102) rfl wr.heap.size (rowA r) rfl rfl 131 _ (heap_alloc_new wr _) (row_info hlt) (row_size hlt) (row_one hlt) ?_; rw [setRow_new]; simp only [Act.put]))
            refine (mixes_calls _).mono ?_
            rintro e' wb ⟨rfl, hb⟩
            have HR0 := Aside0.mk (blk_below (blk_new wr (.cells (rowA r) 131)) hb)
            have hb' := (below_alloc (Below.refl wr.heap.size wr) (.cells (rowA r) 131)).trans (hb.mono (by rw [World.size_alloc]; omega))
            have HV1 := Aside0.mk (blk_below HV.out hb')
            have HH1 := Aside0.mk (blk_below HH.out hb')
            have HM1 := Aside0.mk (blk_below HM.out hb')
            have HB1 := Aside0.mk (HB.out.trans (hb'.mono (Nat.le_trans hB (Nat.le_of_lt (blk_lt HH.out)))))
            have HK1 := Aside0.mk (HK.out.below hb')
            have HNE := Aside0.mk (Nat.ne_of_gt (blk_lt HV.out))
            clear hb hb' HV HH HM HB HK
            obtain ⟨gr, hgr⟩ : ∃ g, g = wr.heap.size := ⟨_, rfl⟩
            rw [← hgr] at HR0 HNE
            rw [← hgr]
            clear hgr hidx hz
            go_wp2_with fail
            obtain ⟨V0, hV0⟩ : ∃ v, v = roundTo (wordsU bl) (startU h tt last) r := ⟨_, rfl⟩
            rw [← hV0] at HV1
            have HVL := Aside0.mk (show V0.length = 16 by rw [hV0, roundTo_length, startU, List.length_append, hl]; rfl)
            have HV0 := Aside0.mk hV0
            clear hV0
            go_loopg [104] 8 (fun gk v104 wx => ∃ (i : Nat), v104 = .int .i64 (i : Int) ∧ i ≤ 8 ∧ Aside0 (8 - i ≤ gk) ∧ Aside0 (wx.heap[gv]? = some (.cells (cellsU (stepTo (wordsU bl) V0 r i)) 130 (0, 0))) ∧ Aside0 (wx.heap[gr]? = some (.cells (rowA r) 131 (0, 0))) ∧ Aside0 (wx.heap[gh]? = some (.cells (hashA h rest tt) 102 (0, 0))) ∧ Aside0 (wx.heap[gm]? = some (.cells (cellsU (wordsU bl)) 130 (0, 0))) ∧ Aside0 (Below B w wx) ∧ Aside0 (Kept w wx (fun q => q = gh)))
            case atStart => exact ⟨0, by rfl, by omega, ⟨by omega⟩, HV1, HR0, HH1, HM1, HB1, HK1⟩
            case round =>
              clear HV1 HR0 HH1 HM1 HB1 HK1
              obtain ⟨i, rfl, hi8, HG2, HV, HR, HH, HM, HB, HK⟩ := hrel
              by_cases hlt8 : i < 8
              · have hb8 : decide ((i : Int) < 8) = true := decide_eq_true (by omega)
                have hidx : ∀ w, (Instr.index 135 (.agg mixA) (.int .i64 (i : Int))).run Tryz.prog w = .ok (.agg #[.int .i64 (at4 i 0 : Int), .int .i64 (at4 i 1 : Int), .int .i64 (at4 i 2 : Int), .int .i64 (at4 i 3 : Int)]) w := by
                  have : i = 0 ∨ i = 1 ∨ i = 2 ∨ i = 3 ∨ i = 4 ∨ i = 5 ∨ i = 6 ∨ i = 7 := by omega
                  rcases this with rfl | rfl | rfl | rfl | rfl | rfl | rfl | rfl <;> (intro w; kernel_rfl)
                go_wp2_with fail
                have HA := Aside0.mk (blk_new wr (.cells #[.int .i64 (at4 i 0 : Int), .int .i64 (at4 i 1 : Int), .int .i64 (at4 i 2 : Int), .int .i64 (at4 i 3 : Int)] 134))
                have HV1 := Aside0.mk (blk_alloc HV.out (.cells #[.int .i64 (at4 i 0 : Int), .int .i64 (at4 i 1 : Int), .int .i64 (at4 i 2 : Int), .int .i64 (at4 i 3 : Int)] 134))
                have HR1 := Aside0.mk (blk_alloc HR.out (.cells #[.int .i64 (at4 i 0 : Int), .int .i64 (at4 i 1 : Int), .int .i64 (at4 i 2 : Int), .int .i64 (at4 i 3 : Int)] 134))
                have HH1 := Aside0.mk (blk_alloc HH.out (.cells #[.int .i64 (at4 i 0 : Int), .int .i64 (at4 i 1 : Int), .int .i64 (at4 i 2 : Int), .int .i64 (at4 i 3 : Int)] 134))
                have HM1 := Aside0.mk (blk_alloc HM.out (.cells #[.int .i64 (at4 i 0 : Int), .int .i64 (at4 i 1 : Int), .int .i64 (at4 i 2 : Int), .int .i64 (at4 i 3 : Int)] 134))
                have HB1 := Aside0.mk (HB.out.alloc (Nat.le_trans hB (Nat.le_of_lt (blk_lt HH.out))) (.cells #[.int .i64 (at4 i 0 : Int), .int .i64 (at4 i 1 : Int), .int .i64 (at4 i 2 : Int), .int .i64 (at4 i 3 : Int)] 134))
                have HK1 := Aside0.mk (HK.out.alloc (.cells #[.int .i64 (at4 i 0 : Int), .int .i64 (at4 i 1 : Int), .int .i64 (at4 i 2 : Int), .int .i64 (at4 i 3 : Int)] 134))
                have N1 := Aside0.mk (show wr.heap.size ≠ gv from Nat.ne_of_gt (blk_lt HV.out))
                have N3 := Aside0.mk (show gm ≠ gv from Nat.ne_of_lt HLM.out)
                have N2 := HNE
                clear HV HR HH HM HB HK hidx
                generalize wr.alloc (.cells #[.int .i64 (at4 i 0 : Int), .int .i64 (at4 i 1 : Int), .int .i64 (at4 i 2 : Int), .int .i64 (at4 i 3 : Int)] 134) = wq at *
                obtain ⟨ga, hga⟩ : ∃ g, g = wr.heap.size := ⟨_, rfl⟩
                rw [← hga] at HA N1
                rw [← hga]
                clear hga
                obtain ⟨la0, la1, la2, la3, n01, n02, n03, n12, n13, n23⟩ := at4_ok hlt8
                obtain ⟨k0, e0⟩ : ∃ k, k = 2 * i := ⟨_, rfl⟩
                obtain ⟨k1, e1⟩ : ∃ k, k = 2 * i + 1 := ⟨_, rfl⟩
                have d0 := (blk_cell HR1.out k0).trans (row_get hlt (by omega))
                have d1 := (blk_cell HR1.out k1).trans (row_get hlt (by omega))
                have ls0 : sig r k0 < 16 := sig_lt hlt (by omega)
                have ls1 : sig r k1 < 16 := sig_lt hlt (by omega)
                have m0 := (blk_cell HM1.out (sig r k0)).trans (cellsU_get (wordsU bl) (sig r k0) (by rw [wordsU_length]; exact ls0))
                have m1 := (blk_cell HM1.out (sig r k1)).trans (cellsU_get (wordsU bl) (sig r k1) (by rw [wordsU_length]; exact ls1))
                have hst : stepTo (wordsU bl) V0 r (i + 1) = mixU (stepTo (wordsU bl) V0 r i) (at4 i 0) (at4 i 1) (at4 i 2) (at4 i 3) (getU (wordsU bl) (sig r k0)) (getU (wordsU bl) (sig r k1)) := by
                  rw [e0, e1]
                  rfl
                have c0 := blk_cell HA.out 0
                have c1 := blk_cell HA.out 1
                have c2 := blk_cell HA.out 2
                have c3 := blk_cell HA.out 3
                simp only [List.getElem?_toArray, List.getElem?_cons_zero, List.getElem?_cons_succ] at c0 c1 c2 c3
                generalize at4 i 0 = a0 at *
                generalize at4 i 1 = a1 at *
                generalize at4 i 2 = a2 at *
                generalize at4 i 3 = a3 at *
                generalize getU (wordsU bl) (sig r k0) = x at *
                generalize getU (wordsU bl) (sig r k1) = y at *
                generalize sig r k0 = s0 at *
                generalize sig r k1 = s1 at *
                have q0 : IntKind.i64.wrap (2 * (i : Int)) = (k0 : Int) := by rw [IntKind.wrap_i64]; omega
                have q1 : IntKind.i64.wrap ((k0 : Int) + 1) = (k1 : Int) := by rw [IntKind.wrap_i64]; omega
                have p0 : (k0 : Int) < 16 := by omega
                have p1 : (k1 : Int) < 16 := by omega
                have p2 : (s0 : Int) < 16 := by omega
                have p3 : (s1 : Int) < 16 := by omega
                have HST := Aside0.mk hst
                have HSL := Aside0.mk (show (stepTo (wordsU bl) V0 r i).length = 16 by rw [stepTo_length]; exact HVL.out)
                have LA := Aside0.mk (And.intro (And.intro la0 la1) (And.intro la2 la3))
                have NA := Aside0.mk (And.intro (And.intro n01 (And.intro n02 n03)) (And.intro n12 (And.intro n13 n23)))
                generalize stepTo (wordsU bl) V0 r i = V1 at *
                clear e0 e1 hst ls0 ls1 la0 la1 la2 la3 n01 n02 n03 n12 n13 n23
                go_region_held3 (fun wx => (wx.cell? ⟨ga, 0, none⟩ = some (.int .i64 a0) ∧ wx.cell? ⟨ga, 1, none⟩ = some (.int .i64 a1) ∧ wx.cell? ⟨ga, 2, none⟩ = some (.int .i64 a2) ∧ wx.cell? ⟨ga, 3, none⟩ = some (.int .i64 a3) ∧ wx.cell? ⟨gr, k0, none⟩ = some (.int .u8 s0) ∧ wx.cell? ⟨gr, k1, none⟩ = some (.int .u8 s1) ∧ wx.cell? ⟨gm, s0, none⟩ = some (.int .u32 x.toNat) ∧ wx.cell? ⟨gm, s1, none⟩ = some (.int .u32 y.toNat))) (first | exact step_keep (by assumption) (by assumption) N1 N2 N3 | exact ⟨c0, c1, c2, c3, d0, d1, m0, m1⟩)
                  (first | (go_at_call 98; (with_reducible refine (mix_calls B gv V1 a0 a1 a2 a3 x y _ ?hv HSL.out (Nat.le_trans hB (Nat.le_of_lt (Nat.lt_trans HLT.out HLM.out))) LA.out.1.1 LA.out.1.2 LA.out.2.1 LA.out.2.2 NA.out.1.1 NA.out.1.2.1 NA.out.1.2.2 NA.out.2.1 NA.out.2.2.1 NA.out.2.2.2).mono ?_); (case hv => repeat (first | exact HV1.out | refine blk_drew ?_ | refine blk_drewN ?_ _)); rintro e' wz ⟨⟨rv, rfl⟩, hv', hbz, hkz⟩))
                have HV2 := Aside0.mk (HST.out ▸ hv')
                have HR2 := Aside0.mk (blk_kept (by repeat (first | exact HR1.out | refine blk_drew ?_ | refine blk_drewN ?_ _)) hkz N2.out)
                have HH2 := Aside0.mk (blk_kept (by repeat (first | exact HH1.out | refine blk_drew ?_ | refine blk_drewN ?_ _)) hkz (Nat.ne_of_lt (Nat.lt_trans HLT.out HLM.out)))
                have HM2 := Aside0.mk (blk_kept (by repeat (first | exact HM1.out | refine blk_drew ?_ | refine blk_drewN ?_ _)) hkz N3.out)
                have HB2 := Aside0.mk (HB1.out.drew.trans hbz)
                have HK2 := Aside0.mk (HK1.out.drew.then_ hkz (fun q hq => .inr (by rw [hq, ← HGM.out]; exact HS0.out)))
                clear hv' hbz hkz c0 c1 c2 c3 d0 d1 m0 m1 q0 q1 p0 p1 p2 p3 HV1 HR1 HH1 HM1 HB1 HK1
                go_wp2_with fail
                go_roundg (8 - (i + 1))
                case measure => have := HG2.out; omega
                case rel => exact ⟨i + 1, by go_num, by omega, ⟨by omega⟩, HV2, HR2, HH2, HM2, HB2, HK2⟩
              · have hi8' : i = 8 := by omega
                subst hi8'
                have hb8 : decide (((8 : Nat) : Int) < 8) = false := by decide
                have hst : roundTo (wordsU bl) (startU h tt last) (r + 1) = stepTo (wordsU bl) V0 r 8 := by rw [HV0.out]; rfl
                have HV2 := Aside0.mk (hst ▸ HV.out)
                clear hst
                go_wp2_with fail
                go_roundg (10 - (r + 1))
                case measure => have := HG.out; omega
                case rel => exact ⟨r + 1, by go_num, by omega, ⟨by omega⟩, HV2, HH, HM, HB, HK⟩
          · have hr10 : r = 10 := by omega
            subst hr10
            have hb10 : decide (((10 : Nat) : Int) < 10) = false := by decide
            obtain ⟨V, hV⟩ : ∃ v, v = roundTo (wordsU bl) (startU h tt last) 10 := ⟨_, rfl⟩
            rw [← hV] at HV
            have hVl : V.length = 16 := by rw [hV, roundTo_length, startU, List.length_append, hl]; rfl
            have HVE := Aside0.mk hV
            clear hV HG HM
            go_wp2_with fail
            go_loopg [125] 8 (fun gk v125 wx => ∃ (i : Nat), v125 = .int .i64 (i : Int) ∧ i ≤ 8 ∧ Aside0 (8 - i ≤ gk) ∧ Aside0 (wx.heap[gv]? = some (.cells (cellsU V) 130 (0, 0))) ∧ Aside0 (wx.heap[gh]? = some (.cells (hashA (eTo h V i) rest tt) 102 (0, 0))) ∧ Aside0 (Below B w wx) ∧ Aside0 (Kept w wx (fun q => q = gh)))
            case atStart => exact ⟨0, by rfl, by omega, ⟨by omega⟩, HV, HH, HB, HK⟩
            case round =>
              clear HV HH HB HK
              obtain ⟨i, rfl, hi8, HG2, HV, HH, HB, HK⟩ := hrel
              by_cases hlt8 : i < 8
              · have hb8 : decide ((i : Int) < 8) = true := decide_eq_true (by omega)
                have hel := eTo_length (v := V) hl i
                obtain ⟨i8, e8⟩ : ∃ k, k = i + 8 := ⟨_, rfl⟩
                have z0 := (blk_cell HV.out i).trans (cellsU_get V i (by omega))
                have z8 := (blk_cell HV.out i8).trans (cellsU_get V i8 (by omega))
                have zh := (blk_cell HH.out i).trans (hashA_h hel rest tt i hlt8)
                have fh := blk_frozen HH.out i
                rw [eTo_get hl (Nat.le_refl i)] at zh
                have hne : gh ≠ gv := Nat.ne_of_lt (Nat.lt_trans HLT.out HLM.out)
                have hnx : eTo h V (i + 1) = (eTo h V i).set i (getU h i ^^^ (getU V i ^^^ getU V i8)) := by rw [e8]; rfl
                have a0 : (0 : Int) ≤ (i : Int) := by omega
                have a1 : (i : Int) < 8 := by omega
                have a2 : (i : Int) < 16 := by omega
                have a3 : (i8 : Int) < 16 := by omega
                have q0 : IntKind.i64.wrap ((i : Int) + 8) = (i8 : Int) := by rw [IntKind.wrap_i64]; omega
                have HNX := Aside0.mk hnx
                have E8 := Aside0.mk e8
                clear hnx e8
                generalize getU h i = x0 at *
                generalize getU V i = x1 at *
                generalize getU V i8 = x2 at *
                go_wp2_with fail
                go_region
                rw [xorU, xorU]
                have HV2 := Aside0.mk (blk_drew (blk_far HV.out (p := ⟨gh, i, none⟩) (fun e => hne e.symm) (.int .u32 ((x0 ^^^ (x1 ^^^ x2)).toNat : Int))))
                have HH2 := Aside0.mk (blk_drew (blk_put HH.out i (.int .u32 ((x0 ^^^ (x1 ^^^ x2)).toNat : Int)) ((hashA_set_h hel rest tt i hlt8 _).trans (congrArg (fun q => hashA q rest tt) HNX.out.symm))))
                have HB2 := Aside0.mk ((HB.out.setCell (p := ⟨gh, i, none⟩) hB (.int .u32 ((x0 ^^^ (x1 ^^^ x2)).toNat : Int))).drew)
                have HK2 := Aside0.mk ((HK.out.setCell (p := ⟨gh, i, none⟩) (.inl rfl) (.int .u32 ((x0 ^^^ (x1 ^^^ x2)).toNat : Int))).drew)
                clear z0 z8 zh fh HV HH HB HK hne
                go_wp2_with fail
                go_roundg (8 - (i + 1))
                case measure => have := HG2.out; omega
                case rel => exact ⟨i + 1, by go_num, by omega, ⟨by omega⟩, HV2, HH2, HB2, HK2⟩
              · have hi8' : i = 8 := by omega
                subst hi8'
                have hb8 : decide (((8 : Nat) : Int) < 8) = false := by decide
                go_wp2_with fail
                go_end0
                refine ⟨⟨_, rfl⟩, ?_, HB.out, HK.out⟩
                have := HH.out
                rw [eTo_all hl, HVE.out] at this
                rw [← HT.out]
                exact this
end Go.Proofs.YtnnkenbcdepafaaGreatDoor.K

namespace Go.Proofs.YtnnkenbcdepafaaGreatDoor.K
open Go.RowKit Go.Lib Go.Proofs.YtnnkenbcdepafaaGreatDoorW.PrintWords
set_option linter.unusedVariables false

section
variable {P : Program} {w : World}
theorem step_append_own_string {ops : Array Oper} {o : Oper} {a : Act} {K : Act → World → Prop} {Q : Exit → Act → World → Prop} {E : Prop} (hgd : o.guard = none) (sl x : Operand) (t u : TypeId)
    (ho : o.op = .call { callee := .builtin .append, args := #[sl, x], argTypes := #[t, u] })
    (base : Nat) (e : TypeId) (i : TypeInfo) (ht : P.underlying t = some (.slice e)) (hu : P.underlying u = some .string) (hi : P.info? e = some i) (hz : i.zero = some (.int .u8 0))
    (hsize : i.size = 1) (hby : i.bytes = 1)
    (v : Value) (n : Nat) (xs : List Value) (hs : a.eval sl = v) (hown : w.ownsRow base e 1 v n xs) (s : ByteArray) (hx : a.eval x = .string s)
    (h63 : n + s.size ≤ maxLen) (hbytes : n + s.size ≤ 140737488355328) (hbase : base ≤ w.heap.size)
    (h : ∀ v' w', w'.ownsRow base e 1 v' (n + s.size) (xs ++ strCells s) → w.grownBy w' v.ownBlock → (v' = .slice none 0 0 ↔ v = .slice none 0 0 ∧ s.size = 0) → K (a.put o.dst v') w') :
    if Region.wanted o (yielded ops a.tmps) = true then Oper.wp P o a w K Q else E := by
  have hw : Region.wanted o (yielded ops a.tmps) = true := by simp [Region.wanted, hgd]
  rw [if_pos hw]
  obtain ⟨v', w', hr, h2, h3, h4⟩ := run_append_own_string (P := P) w base t u o.type e i ht hu hi hz hsize hby v n xs hown s h63 hbytes hbase
  unfold Oper.wp execOp
  simp only [ho, resolve, invoke, builtin, Sem.run_bind, Sem.run_pure, Result.andThen_ok, List.map_toArray, List.map_cons, List.map_nil, hs, hx, hr]
  exact h v' w' h2 h3 h4

/-- append(nil, s...) as one step of a region: s has a byte at least. -/
theorem step_append_nil_string {ops : Array Oper} {o : Oper} {a : Act} {K : Act → World → Prop} {Q : Exit → Act → World → Prop} {E : Prop} (hgd : o.guard = none) (sl x : Operand) (t u : TypeId)
    (ho : o.op = .call { callee := .builtin .append, args := #[sl, x], argTypes := #[t, u] })
    (e : TypeId) (i : TypeInfo) (ht : P.underlying t = some (.slice e)) (hu : P.underlying u = some .string) (hi : P.info? e = some i) (hz : i.zero = some (.int .u8 0))
    (hsize : i.size = 1) (hby : i.bytes = 1)
    (hs : a.eval sl = .slice none 0 0) (s : ByteArray) (hx : a.eval x = .string s) (h63 : s.size ≤ 140737488355328) (hpos : 0 < s.size)
    (h : ∀ g cap cur w', w.heap.size ≤ g → s.size ≤ cap → w'.heap[g]? = some (.cells cur e (0, 0)) → cur.toList.take s.size = strCells s → Below w.heap.size w w' → K (a.put o.dst (.slice (some ⟨g, 0, none⟩) s.size cap)) w') :
    if Region.wanted o (yielded ops a.tmps) = true then Oper.wp P o a w K Q else E := by
  refine step_append_own_string hgd sl x t u ho w.heap.size e i ht hu hi hz hsize hby _ 0 [] hs (World.ownsRow_nil _ _ _ _) s hx (by simp [maxLen]; omega) (by omega) (Nat.le_refl _) ?_
  intro v' w' hown hgr hnil
  rcases hown.2 with ⟨_, h0⟩ | ⟨g, cap, cur, rfl, hb, hg, hnc, _, _, ht⟩
  · omega
  · rw [Nat.zero_add] at hnc ht ⊢
    rw [Nat.mul_one, List.nil_append] at ht
    exact h g cap cur w' hb hnc hg ht ((Below.refl _ _).grown hgr (Nat.le_refl _) (fun k hk => by cases hk))

/-- append(s, make([]byte, m)...), s a row that lies in a block of its own and is full. -/
theorem run_append_zeros (t tn ty e : TypeId) (i : TypeInfo) (k kn : IntKind) (ht : P.underlying t = some (.slice e)) (htn : P.underlying tn = some (.int kn)) (hi : P.info? e = some i) (hz : i.zero = some (.int .u8 0)) (hsize : i.size = 1) (hby : i.bytes = 1)
    (b : Addr) (n m : Nat) (olds : List Value) (hlo : olds.length = n) (holds : ∀ j v, olds[j]? = some v → w.cell? (b.add j) = some v) (hm : 0 < m) (hnm : n + m ≤ 1000) :
    ∃ c, (Builtin.append_ #[t, tn] ty #[.slice (some b) n n, .int k (m : Int)]).run P w =
      .ok (.slice (some ⟨w.heap.size, 0, none⟩) (n + m) c) (w.drew.alloc (.cells (olds ++ List.replicate (m + (c - (n + m))) (Value.int .u8 0)).toArray e)) := by
  refine ⟨grownCap w (n + m) n e, ?_⟩
  have hw : IntKind.i64.wrap (m : Int) = m := by rw [IntKind.wrap_i64]; omega
  have hn : ¬ (n + m ≤ n) := by omega
  have h63' : ¬ (9223372036854775807 < ((n : Int) + (m : Int))) := by omega
  have h48' : ¬ (281474976710656 < Builtin.nextslicecap (n + m) n * i.bytes) := by
    have := growslice_fits (need := n + m) (old := n) (bytes := i.bytes) (by omega) (by rw [hby]; omega)
    omega
  have h48i : ¬ (281474976710656 < (m : Int) * (i.bytes : Int)) := by
    rw [hby]
    omega
  have hm0 : m ≠ 0 := by omega
  have hml : ¬ ((m : Int) < 0) := by omega
  have hfo := run_firstCells_some (P := P) w.drew i.size n b n n olds (by rw [hsize, hlo, Nat.mul_one]) (by simpa using holds)
  have ez : ∀ q : Nat, Builtin.zeroCells (Value.int .u8 0).cells q = (List.replicate q (Value.int .u8 0)).toArray := by
    intro q
    apply Array.ext'
    simp only [Builtin.zeroCells, Value.cells, Array.toList_map, Array.toList_range]
    rw [List.eq_replicate_iff]
    refine ⟨by simp, fun x hx => ?_⟩
    obtain ⟨i, _, rfl⟩ := List.mem_map.1 hx
    rw [show (#[Value.int .u8 0] : Array Value).size = 1 from rfl, Nat.mod_one]
    rfl
  have hs0 : ¬ (m * i.size = 0) := by rw [hsize]; omega
  rw [hsize] at hfo hs0
  simp [Builtin.append_, run_underlying ht, run_underlying htn, sizeOf, typeInfo, zeroValue, hi, hz, hsize, asInt, asIntOf, hw, hml, h48i, Builtin.lenOf, hn, hm0, h63', h48', Question.forced, hfo, newRow, grownCap, ez, ← List.toArray_replicate]
theorem run_append_zeros0 (t tn ty e : TypeId) (i : TypeInfo) (k kn : IntKind) (ht : P.underlying t = some (.slice e)) (htn : P.underlying tn = some (.int kn)) (hi : P.info? e = some i) (hz : i.zero = some (.int .u8 0)) (hsize : i.size = 1) (hby : i.bytes = 1)
    (b : Addr) (n c : Nat) (hnc : n ≤ c) :
    (Builtin.append_ #[t, tn] ty #[.slice (some b) n c, .int k 0]).run P w = .ok (.slice (some b) n c) w := by
  have hw : IntKind.i64.wrap (0 : Int) = 0 := by rw [IntKind.wrap_i64]; omega
  simp [Builtin.append_, run_underlying ht, run_underlying htn, sizeOf, typeInfo, zeroValue, hi, hz, hsize, asInt, asIntOf, hw, Builtin.lenOf, hnc, storeCells]
end
end Go.Proofs.YtnnkenbcdepafaaGreatDoor.K
