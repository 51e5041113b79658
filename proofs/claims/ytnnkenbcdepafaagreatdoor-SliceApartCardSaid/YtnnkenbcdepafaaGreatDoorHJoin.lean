/- The walk of slice.Join: the stream whose cut the volumes are (joinB); nothing that lay there is changed. -/
import Derived.Test.YtnnkenbcdepafaaGreatDoorHCut
import Derived.Test.YtnnkenbcdepafaaGreatDoorHJS
import Derived.Laws.BitsLemmas
namespace Go.Proofs.YtnnkenbcdepafaaGreatDoor.H
open Go.RowKit Go.Proofs.YtnnkenbcdepafaaGreatDoorW.PrintWords Go.Proofs.YtnnkenbcdepafaaGreatDoorW.PrintLast Go.Proofs.YtnnkenbcdepafaaGreatDoorW.PrintMore Go.Proofs.YtnnkenbcdepafaaGreatDoor.B
set_option linter.unusedVariables false
set_option linter.unusedSimpArgs false

/-- Join's answer, where the volumes are not more than Go's memory has. -/
def slice_Join.f (vs : List (List ByteArray)) (d r s m : Int) : Option (ByteArray × Int) := if vs.length ≤ 1073741824 then some (joinB vs d r s m) else none

set_option maxHeartbeats 4000000 in
set_option maxRecDepth 100000 in
def rowsAt (xs : List (List ByteArray)) (i : Int) : (List ByteArray) := xs.getD i.toNat ([] : List ByteArray)
theorem at_rows {w : World} {A : Option Addr} {n : Nat} {xs : List (List ByteArray)} (h : Kd.C (Kd.slice 9 Kd.string) w A n xs) (i : Int) (h0 : 0 ≤ i) (h1 : i < n) : ∃ ad A0 c0, A = some ad ∧ w.cell? (ad.add i.toNat) = some (.slice A0 (rowsAt xs i).length c0) ∧ (rowsAt xs i).length ≤ c0 ∧ Kd.string.C w A0 (rowsAt xs i).length (rowsAt xs i) := by
  obtain ⟨ad, c, e, _, hK, hc0⟩ := Kd.C_get h ([] : List ByteArray) i h0 h1
  have hc : ∀ j u, c[j]? = some u → w.cell? (ad.add (i.toNat * 1 + j)) = some u := hc0
  obtain ⟨A0, c0, rfl, l0, g0⟩ := hK
  exact ⟨ad, A0, c0, e, by have hq := hc 0 _ rfl; rwa [Nat.mul_one, Nat.add_zero] at hq, l0, g0⟩
theorem join_no (vs : List (List ByteArray)) (A0 : Option Addr) (c0 : Nat) (d r s m : Int) (w : World) (h : shapeB d r s m = false) :
    Calls Tryz.prog 15 #[.slice A0 vs.length c0, .agg #[.int .i64 d, .int .i64 r, .int .i64 s, .int .i64 m]] w fun e w' => e = .returned (.tuple #[.string ⟨#[]⟩, .int .i64 1]) ∧ Below w.heap.size w w' := by
  have HB := Aside0.mk (Below.refl w.heap.size w)
  have HS := Aside0.mk (shape_f d r s m)
  rw [h] at HS
  clear h
  go_enter Tryz.func15, Tryz.ntmps15
  go_wp2_with (first | ((with_reducible refine gate_dst (N := 3) rfl ?_); refine box_event ?hg (N := 3) ?hd (cs := #[.int .i64 d, .int .i64 r, .int .i64 s, .int .i64 m]) (t := 23) ?hr ?_; (case hd => rfl); (case hg => rfl); (case hr => first | (go_simp; done) | (go_simp; rfl)); intro gb hg w1 hbox hb; have HB1 := Aside0.mk (below_step HB.out hb); have GB := Aside0.mk (show w.heap.size ≤ gb by rw [hg]; exact below_size HB.out); clear HB; have HB := HB1; clear HB1; have BK := Aside0.mk hbox; clear hb hbox hg; have hcw1_0 : w1.cell? ⟨gb, 0, none⟩ = some (.int .i64 d) := (blk_cell BK.out 0).trans rfl; have hcw1_1 : w1.cell? ⟨gb, 1, none⟩ = some (.int .i64 r) := (blk_cell BK.out 1).trans rfl; have hcw1_2 : w1.cell? ⟨gb, 2, none⟩ = some (.int .i64 s) := (blk_cell BK.out 2).trans rfl; have hcw1_3 : w1.cell? ⟨gb, 3, none⟩ = some (.int .i64 m) := (blk_cell BK.out 3).trans rfl) | ((with_reducible refine gate_callee (f := 24) rfl ?_); refine goesL_ (some 17) rfl rfl Tryz.func24 (by kernel_rfl) rfl #[.agg #[.int .i64 d, .int .i64 r, .int .i64 s, .int .i64 m]] rfl (by (try simp only [List.map_toArray, List.map_cons, List.map_nil]); first | done | rfl) ?_; (with_reducible refine (slice_Shape.calls d r s m _ _ HS.out).mono ?_); rintro e w2 ⟨rfl, hb⟩; refine ⟨_, rfl, ?_⟩; have HB1 := Aside0.mk (below_step HB.out hb); clear HB; have HB := HB1; clear HB1; have BK1 := Aside0.mk (blk_below (by exact BK.out) hb); clear BK; have BK := BK1; clear BK1; clear hb; have hcw2_0 : w2.cell? ⟨gb, 0, none⟩ = some (.int .i64 d) := (blk_cell BK.out 0).trans rfl; have hcw2_1 : w2.cell? ⟨gb, 1, none⟩ = some (.int .i64 r) := (blk_cell BK.out 1).trans rfl; have hcw2_2 : w2.cell? ⟨gb, 2, none⟩ = some (.int .i64 s) := (blk_cell BK.out 2).trans rfl; have hcw2_3 : w2.cell? ⟨gb, 3, none⟩ = some (.int .i64 m) := (blk_cell BK.out 3).trans rfl))
  go_ret2
  exact ⟨rfl, HB.out⟩

/-- The closure's answer: the row has another size. -/
theorem join_pred (gb : Nat) (S : Int) (w : World) (hc : w.cell? ⟨gb, 2, none⟩ = some (.int .i64 S)) : PredAt Tryz.prog 35 #[.pointer (some ⟨gb, 0, none⟩)] (fun x : ByteArray => .string x) (fun x => decide ((x.size : Int) ≠ S)) w := fun W x hb => by
  have hcW := pw_cell_below hb hc
  have hu23 := Tryz.underlying23
  unfold FnGives
  go_enter Tryz.func35, Tryz.ntmps35
  go_wp2
  go_ret
  exact ⟨by by_cases h : (x.size : Int) = S <;> simp [h], 0, rfl⟩

theorem cells_of {w : World} {A : Option Addr} {xs : List ByteArray} (h : Kd.string.C w A xs.length xs) (hpos : 0 < xs.length) : ∃ b o, A = some ⟨b, o, none⟩ ∧ b < w.heap.size ∧ ∀ (j : Nat) x, xs[j]? = some x → w.cell? ⟨b, o + j, none⟩ = some (.string x) := by
  have one : ∀ j : Nat, j < xs.length → ∃ ad, A = some ad ∧ w.cell? (ad.add j) = some (.string (xs.getD j ⟨#[]⟩)) := fun j hj => by
    obtain ⟨ad, c, e, _, hK, hc0⟩ := Kd.C_get h (⟨#[]⟩ : ByteArray) j (by omega) (by omega)
    have hc : ∀ q u, c[q]? = some u → w.cell? (ad.add ((j : Int).toNat * 1 + q)) = some u := hc0
    refine ⟨ad, e, ?_⟩
    have hK' : c = [.string (xs.getD (j : Int).toNat ⟨#[]⟩)] := hK
    subst hK'
    have hq := hc 0 _ rfl
    rwa [Nat.mul_one, Nat.add_zero, Int.toNat_natCast] at hq
  obtain ⟨ad, rfl, h0⟩ := one 0 hpos
  obtain ⟨b, o, sp⟩ := ad
  have hsp : sp = none := by
    cases sp with
    | none => rfl
    | some q =>
      exfalso
      unfold World.cell? Addr.add at h0
      simp at h0
      split at h0 <;> simp at h0
  subst hsp
  refine ⟨b, o, rfl, World.block_lt_of_cell? w _ h0, fun j x hx => ?_⟩
  have hj : j < xs.length := by
    rcases Nat.lt_or_ge j xs.length with h1 | h1
    · exact h1
    · rw [List.getElem?_eq_none h1] at hx; cases hx
  obtain ⟨ad, e, h1⟩ := one j hj
  cases e
  rw [List.getD_eq_getElem?_getD, hx] at h1
  unfold Addr.add at h1
  split at h1
  · rename_i h2; subst h2; exact h1
  · exact h1

theorem contains_rows (gb : Nat) (S : Int) (A : Option Addr) (c : Nat) (rows : List ByteArray) (w : World) (hpos : 0 < rows.length) (hl : rows.length ≤ 64) (h : Kd.string.C w A rows.length rows) (hc : w.cell? ⟨gb, 2, none⟩ = some (.int .i64 S)) :
    Calls Tryz.prog 34 #[.slice A rows.length c, .func (.func 35) #[] #[.pointer (some ⟨gb, 0, none⟩)]] w fun e w' => e = .returned (.bool (rows.any fun x => decide ((x.size : Int) ≠ S))) ∧ Below w.heap.size w w' := by
  obtain ⟨b, o, rfl, _, hcell⟩ := cells_of h hpos
  have h := AnyE.slices_ContainsFunc Tryz.containsStr (fun x : ByteArray => .string x) (fun x => decide ((x.size : Int) ≠ S)) 35 #[.pointer (some ⟨gb, 0, none⟩)] (enters_of Tryz.func35 (by kernel_rfl) rfl) b o rows.length c rows w (join_pred gb S w hc) (Nat.le_refl _) (by omega) (fun j hj => by
    rw [hcell j rows[j]! (by simp [List.getElem!_eq_getElem?_getD, List.getElem?_eq_getElem hj])])
  rw [List.take_of_length_le (Nat.le_refl _)] at h
  refine Calls.mono h ?_
  rintro e w' ⟨rfl, q, rfl⟩
  exact ⟨rfl, pw_below_drewN (Below.refl _ _) q⟩

theorem join_rows (A : Option Addr) (c : Nat) (rows : List ByteArray) (w : World) (hpos : 0 < rows.length) (hl : rows.length ≤ 64) (hcap : rows.length ≤ c) (h : Kd.string.C w A rows.length rows) (hlen : (rowsL rows).length ≤ 32768) :
    Calls Tryz.prog 36 #[.slice A rows.length c, .string ⟨#[]⟩] w fun e w' => e = .returned (.string ⟨(rowsL rows).toArray⟩) ∧ Below w.heap.size w w' := by
  obtain ⟨b, o, rfl, hbk, hcell⟩ := cells_of h hpos
  have e : Lib.join (rows.map (·.data.toList)) (⟨#[]⟩ : ByteArray).data.toList = rowsL rows := join_empty _
  have h := Tryz.strings_Join b o c rows ⟨#[]⟩ w hcell hbk (by omega) hcap (by rw [e]; omega)
  rw [e] at h
  exact h

theorem slice_two (all : ByteArray) (a b : Nat) (h1 : a ≤ b) (h2 : b ≤ all.size) (W : World) : (Instr.slice 9 (.string all) (some (.int .i64 (a : Int))) (some (.int .i64 (b : Int))) none).run Tryz.prog W = .ok (.string (all.extract a b)) W := by
  simp [Instr.slice, Instr.sliceBounds, Instr.sliceBound, asIntOf, go_sem, h1, h2]
theorem slice_one (all : ByteArray) (a : Nat) (h1 : a ≤ all.size) (W : World) : (Instr.slice 9 (.string all) (some (.int .i64 (a : Int))) none none).run Tryz.prog W = .ok (.string (all.extract a all.size)) W := by
  simp [Instr.slice, Instr.sliceBounds, Instr.sliceBound, asIntOf, go_sem, h1]

theorem or_step (L : List UInt8) (all : ByteArray) (hall : all.data.toList = L) (j : Nat) (hj : j < all.size) (nj : Nat) (h : numTo L j = nj) (hb : nj < 72057594037927936) :
    bits BinOp.or IntKind.u64 ((nj : Int) * 256) (IntKind.u64.wrap ((all[j]'hj).toNat : Int)) = ((numTo L (j + 1) : Nat) : Int) := by
  have hw : ∀ n : Int, 0 ≤ n → n < 2 ^ 64 → IntKind.u64.wrap n = n := fun n h1 h2 => by
    show n % 18446744073709551616 = n
    omega
  have hx := (all[j]'hj).toNat_lt
  have hget : (all[j]'hj) = L.getD j 0 := by
    rw [← hall, List.getD_eq_getElem?_getD, Array.getElem?_toList]
    have : all.data[j]? = some (all[j]'hj) := Array.getElem?_eq_getElem hj
    rw [this]
    rfl
  rw [hw _ (by omega) (by omega), bits_join .u64 64 (by decide) hw 8 _ _ (by omega) (by omega) (by omega) (by omega) (by omega) (by omega), numTo, h, hget]
  omega

theorem c_below {w W : World} {A : Option Addr} {xs : List ByteArray} (h : Kd.string.C w A xs.length xs) (hpos : 0 < xs.length) (hb : Below w.heap.size w W) : Kd.string.C W A xs.length xs := Kd.heap_string.C (fun k hk => hb.block k hk) h

set_option maxHeartbeats 4000000 in
set_option maxRecDepth 100000 in
theorem join_yes (vs : List (List ByteArray)) (A0 : Option Addr) (c0 : Nat) (r m : Int) (w : World) (D S : Nat) (hv : vs.length ≤ 1073741824) (hsh : shapeB D r S m = true) (hr0 : Kd.C (Kd.slice 9 Kd.string) w A0 vs.length vs) (hc0 : vs.length ≤ c0) (res : ByteArray) (err : Int) (hj : joinB vs D r S m = (res, err)) :
    Calls Tryz.prog 15 #[.slice A0 vs.length c0, .agg #[.int .i64 (D : Int), .int .i64 r, .int .i64 (S : Int), .int .i64 m]] w fun e w' => e = .returned (.tuple #[.string res, .int .i64 err]) ∧ Below w.heap.size w w' := by
  have HB := Aside0.mk (Below.refl w.heap.size w)
  have HR0 := Aside0.mk hr0
  clear hr0
  have HS := Aside0.mk (shape_f D r S m)
  rw [hsh] at HS
  unfold joinB at hj
  rw [if_pos hsh] at hj
  have HJ := Aside0.mk hj
  have hm := shapeB_iff.1 hsh
  have hD : 1 ≤ D ∧ D ≤ 64 := by omega
  have hS : 2 ≤ S ∧ S ≤ 512 := by omega
  have hm0 : 0 ≤ m := by omega
  have hm1 : m ≤ 32 := by omega
  have HSH := Aside0.mk hsh
  clear hm hsh hj
  have hu23 := Tryz.underlying23
  go_enter Tryz.func15, Tryz.ntmps15
  go_wp2_with (first | ((with_reducible refine gate_dst (N := 3) rfl ?_); refine box_event ?hg (N := 3) ?hd (cs := #[.int .i64 (D : Int), .int .i64 r, .int .i64 (S : Int), .int .i64 m]) (t := 23) ?hr ?_; (case hd => rfl); (case hg => rfl); (case hr => first | (go_simp; done) | (go_simp; rfl)); intro gb hg w1 hbox hb; have HB1 := Aside0.mk (below_step HB.out hb); have GB := Aside0.mk (show w.heap.size ≤ gb by rw [hg]; exact below_size HB.out); clear HB; have HB := HB1; clear HB1; have BK := Aside0.mk hbox; clear hb hbox hg; have hcw1_0 : w1.cell? ⟨gb, 0, none⟩ = some (.int .i64 (D : Int)) := (blk_cell BK.out 0).trans rfl; have hcw1_1 : w1.cell? ⟨gb, 1, none⟩ = some (.int .i64 r) := (blk_cell BK.out 1).trans rfl; have hcw1_2 : w1.cell? ⟨gb, 2, none⟩ = some (.int .i64 (S : Int)) := (blk_cell BK.out 2).trans rfl; have hcw1_3 : w1.cell? ⟨gb, 3, none⟩ = some (.int .i64 m) := (blk_cell BK.out 3).trans rfl) | ((with_reducible refine gate_callee (f := 24) rfl ?_); refine goesL_ (some 17) rfl rfl Tryz.func24 (by kernel_rfl) rfl #[.agg #[.int .i64 (D : Int), .int .i64 r, .int .i64 (S : Int), .int .i64 m]] rfl (by (try simp only [List.map_toArray, List.map_cons, List.map_nil]); first | done | rfl) ?_; (with_reducible refine (slice_Shape.calls (D : Int) r (S : Int) m _ _ HS.out).mono ?_); rintro e w2 ⟨rfl, hb⟩; refine ⟨_, rfl, ?_⟩; have HB1 := Aside0.mk (below_step HB.out hb); clear HB; have HB := HB1; clear HB1; have BK1 := Aside0.mk (blk_below (by exact BK.out) hb); clear BK; have BK := BK1; clear BK1; clear hb; have hcw2_0 : w2.cell? ⟨gb, 0, none⟩ = some (.int .i64 (D : Int)) := (blk_cell BK.out 0).trans rfl; have hcw2_1 : w2.cell? ⟨gb, 1, none⟩ = some (.int .i64 r) := (blk_cell BK.out 1).trans rfl; have hcw2_2 : w2.cell? ⟨gb, 2, none⟩ = some (.int .i64 (S : Int)) := (blk_cell BK.out 2).trans rfl; have hcw2_3 : w2.cell? ⟨gb, 3, none⟩ = some (.int .i64 m) := (blk_cell BK.out 3).trans rfl) | ((with_reducible refine gate_dst (N := 6) rfl ?_); refine box_event ?hg (N := 6) ?hd (cs := #[.pointer none, .slice none 0 0]) (t := 60) ?hr ?_; (case hd => rfl); (case hg => rfl); (case hr => first | (go_simp; done) | (go_simp; rfl)); intro b8 hg w3 hbox hb; have HB1 := Aside0.mk (below_step HB.out hb); have G8 := Aside0.mk (show w.heap.size ≤ b8 by rw [hg]; exact below_size HB.out); have L8 := Aside0.mk (show gb < b8 by rw [hg]; exact blk_lt BK.out); clear HB; have HB := HB1; clear HB1; have BK1 := Aside0.mk (blk_below (by exact BK.out) hb); clear BK; have BK := BK1; clear BK1; have BD := Aside0.mk (Bld.of_blk hbox); clear hb hbox hg; have hcw3_0 : w3.cell? ⟨gb, 0, none⟩ = some (.int .i64 (D : Int)) := (blk_cell BK.out 0).trans rfl; have hcw3_1 : w3.cell? ⟨gb, 1, none⟩ = some (.int .i64 r) := (blk_cell BK.out 1).trans rfl; have hcw3_2 : w3.cell? ⟨gb, 2, none⟩ = some (.int .i64 (S : Int)) := (blk_cell BK.out 2).trans rfl; have hcw3_3 : w3.cell? ⟨gb, 3, none⟩ = some (.int .i64 m) := (blk_cell BK.out 3).trans rfl))
  go_loopg [21] vs.length (fun gk v21 w' => ∃ (i : Nat), v21 = .int .i64 (i : Int) ∧ i ≤ vs.length ∧ Aside0 (vs.length - i ≤ gk) ∧ Aside0 (shapedB (vs.take i) D S = true) ∧ Aside0 (Bld w' b8 (bytesL (vs.take i))) ∧ Aside0 (w'.heap[gb]? = some (.cells #[.int .i64 (D : Int), .int .i64 r, .int .i64 (S : Int), .int .i64 m] 23 (0, 0))) ∧ Aside0 (Below w.heap.size w w'))
  case atStart => exact ⟨0, by rfl, by omega, ⟨by omega⟩, ⟨by rfl⟩, BD, BK, HB⟩
  case round =>
    clear BD BK HB
    obtain ⟨i, rfl, hi, HG, HSP, BD, BK, HB⟩ := hrel
    by_cases hlt : i < vs.length
    · have hst := shapedB_take hlt HSP.out
      obtain ⟨ad, A1, c1, e1, hx1, hl1, hi1⟩ := at_rows HR0.out (i : Int) (by omega) (by omega)
      cases e1
      replace hx1 := (HB.out.cell (World.block_lt_of_cell? w _ hx1)).trans hx1
      have hrd : rowsAt vs (i : Int) = vs.getD i [] := by unfold rowsAt; rw [Int.toNat_natCast]
      obtain ⟨rows, hrows⟩ : ∃ rows, vs.getD i [] = rows := ⟨_, rfl⟩
      rw [hrd, hrows] at hx1 hl1 hi1
      rw [Int.toNat_natCast] at hx1
      rw [hrows] at hst
      have hbt := bytesL_take hlt
      rw [hrows] at hbt
      have HI1 := Aside0.mk hi1
      have HBT := Aside0.mk hbt
      clear hi1 hrd hbt
      have hlen := bytesL_length HSP.out
      have z0 := blk_cell BK.out 0
      have z2 := blk_cell BK.out 2
      simp only [List.getElem?_toArray, List.getElem?_cons_zero, List.getElem?_cons_succ] at z0 z2
      have p1 : (0 : Int) ≤ (i : Int) := by omega
      have p2 : (i : Int) < (vs.length : Int) := by omega
      by_cases hrl : rows.length = D
      · have hpos : 0 < rows.length := by omega
        have HIN := Aside0.mk (c_below HI1.out hpos HB.out)
        have hct := contains_rows gb S A1 c1 rows wr hpos (by omega) HIN.out z2
        rw [hrl] at hct
        have HCT := Aside0.mk hct
        clear hct
        go_wp2_with fail
        refine HCT.out.mono ?_
        rintro e' w4 ⟨rfl, hb⟩
        have BD1 := Aside0.mk (BD.out.below hb)
        have BK1 := Aside0.mk (blk_below BK.out hb)
        have HB1 := Aside0.mk (below_step HB.out hb)
        have hi4 := c_below HIN.out hpos hb
        clear hb BD BK HB HCT HIN HI1
        by_cases hany : (rows.any fun x => decide ((x.size : Int) ≠ (S : Int))) = true
        · rw [hany]
          rw [hany] at hst
          have hno : shapedB vs D S = false := shapedB_stop (i := i + 1) (by rw [hst]; simp)
          have hj := HJ.out
          rw [show joinOk vs D r S m = false by unfold joinOk; rw [hno]; rfl] at hj
          obtain ⟨rfl, rfl⟩ := Prod.mk.inj hj
          clear hj hst HJ hx1
          go_wp2
          go_ret2
          exact ⟨rfl, HB1.out⟩
        · have hany' : (rows.any fun x => decide ((x.size : Int) ≠ (S : Int))) = false := by simpa using hany
          rw [hany']
          rw [hany', decide_eq_true (show ((rows.length : Int) = (D : Int)) by omega)] at hst
          have hrs := any_size hany'
          have hrb : (rowsL rows).length ≤ 32768 := by
            rw [rowsL_length hrs, hrl]
            exact Nat.le_trans (Nat.mul_le_mul hD.2 hS.2) (by decide)
          have hjr := fun W h => join_rows A1 c1 rows W hpos (by omega) hl1 h hrb
          rw [hrl] at hjr hi4
          have HJR := Aside0.mk hjr
          have HI4 := Aside0.mk hi4
          obtain ⟨rb, hrbE⟩ : ∃ rb : ByteArray, (⟨(rowsL rows).toArray⟩ : ByteArray) = rb := ⟨_, rfl⟩
          have hrb2 : rb.data.toList = rowsL rows := by rw [← hrbE]
          have hrb3 : rb.size = (rowsL rows).length := by rw [Lib.size_eq, hrb2]
          have hroom : (bytesL (vs.take i)).length + rb.size ≤ 140737488355328 := by
            rw [hlen, hrb3, List.length_take]
            have h1 : D * S ≤ 64 * 512 := Nat.mul_le_mul hD.2 hS.2
            have h2 : min i vs.length * (D * S) ≤ 1073741824 * (64 * 512) := Nat.mul_le_mul (by omega) h1
            omega
          have HRM := Aside0.mk hroom
          have HRB := Aside0.mk hrb2
          rw [hrbE] at HJR
          have HST := Aside0.mk hst
          clear hany hany' hjr hi4 hroom hrb2 hrb3 hrbE hrs hrb hst hlen
          go_wp2_with fail
          refine (HJR.out _ HI4.out).mono ?_
          rintro e' w5 ⟨rfl, hb⟩
          have BD2 := Aside0.mk (BD1.out.below hb)
          have BK2 := Aside0.mk (blk_below BK1.out hb)
          have HB2 := Aside0.mk (below_step HB1.out hb)
          clear hb BD1 BK1 HB1 HJR HI4
          go_wp2_with fail
          refine (writeString b8 _ rb _ BD2.out HRM.out).mono ?_
          rintro e' w6 ⟨rfl, hd, hb⟩
          rw [HRB.out, HBT.out] at hd
          have BD3 := Aside0.mk hd
          have BK3 := Aside0.mk (blk_stay BK2.out hb L8.out)
          have HB3 := Aside0.mk (bld_below HB2.out hb G8.out)
          clear hd hb BD2 BK2 HB2
          go_wp2_with fail
          go_roundg (vs.length - (i + 1))
          case measure => have := HG.out; omega
          case rel => exact ⟨i + 1, by go_num, by omega, ⟨by omega⟩, ⟨by rw [HST.out]; rfl⟩, BD3, BK3, HB3⟩
      · have hno : shapedB vs D S = false := shapedB_stop (i := i + 1) (by rw [hst, decide_eq_false (show ¬ ((rows.length : Int) = (D : Int)) by omega)]; rfl)
        have hj := HJ.out
        rw [show joinOk vs D r S m = false by unfold joinOk; rw [hno]; rfl] at hj
        obtain ⟨rfl, rfl⟩ := Prod.mk.inj hj
        clear hj hst HJ
        go_wp2_with fail
        go_ret2
        exact ⟨rfl, HB.out⟩
    · have : i = vs.length := by omega
      subst this
      have hsp := HSP.out
      rw [List.take_length] at hsp
      have hlen := bytesL_length hsp
      have bd := BD.out
      rw [List.take_length] at bd
      obtain ⟨L, hL⟩ : ∃ L, bytesL vs = L := ⟨_, rfl⟩
      have hLb : L.length ≤ 1073741824 * (64 * 512) := by
        rw [← hL, hlen]
        exact Nat.mul_le_mul hv (Nat.mul_le_mul hD.2 hS.2)
      rw [hL] at bd
      obtain ⟨all, hal⟩ : ∃ all : ByteArray, (⟨L.toArray⟩ : ByteArray) = all := ⟨_, rfl⟩
      have hall : all.data.toList = L := by rw [← hal]
      have hsz : all.size = L.length := by rw [Lib.size_eq, hall]
      rw [← hsz] at hLb
      have BD := Aside0.mk bd
      have HSP := Aside0.mk hsp
      have HL := Aside0.mk hL
      have HAL := Aside0.mk hal
      have HALL := Aside0.mk hall
      have HSZ := Aside0.mk hsz
      clear hsp bd hlen hL hal hall hsz
      go_wp2_with fail
      refine (builderString b8 L _ BD.out).mono ?_
      rintro e' w4 ⟨rfl, hb⟩
      rw [HAL.out]
      have BK1 := Aside0.mk (blk_stay BK.out hb L8.out)
      have HB1 := Aside0.mk (bld_below HB.out hb G8.out)
      clear hb BD BK HB
      by_cases h8 : all.size < 8
      · have hj := HJ.out
        rw [show joinOk vs D r S m = false by unfold joinOk; rw [HL.out, ← HSZ.out, decide_eq_false (show ¬ (8 ≤ all.size ∧ numTo L 8 ≤ all.size - 8) by omega)]; simp] at hj
        obtain ⟨rfl, rfl⟩ := Prod.mk.inj hj
        clear hj HJ
        go_wp2_with fail
        go_ret2
        exact ⟨rfl, HB1.out⟩
      · go_wp2_with fail
        go_loopg [10, 43] 8 (fun gk v10 v43 w' => ∃ (j : Nat), v43 = .int .i64 (j : Int) ∧ v10 = .int .u64 (numTo L j : Int) ∧ j ≤ 8 ∧ Aside0 (8 - j ≤ gk) ∧ Aside0 (w'.heap[gb]? = some (.cells #[.int .i64 (D : Int), .int .i64 r, .int .i64 (S : Int), .int .i64 m] 23 (0, 0))) ∧ Aside0 (Below w.heap.size w w'))
        case atStart => exact ⟨0, by rfl, by rfl, by omega, ⟨by omega⟩, BK1, HB1⟩
        case round =>
          clear BK1 HB1
          obtain ⟨j, rfl, rfl, hj8, HG2, BK, HB⟩ := hrel
          by_cases hjl : j < 8
          · have hnb := numTo_bound L j (by omega)
            obtain ⟨nj, hnj⟩ : ∃ nj, numTo L j = nj := ⟨_, rfl⟩
            rw [hnj] at hnb ⊢
            have HNJ := Aside0.mk hnj
            clear hnj
            go_wp2_with fail
            go_roundg (8 - (j + 1))
            case measure => have := HG2.out; omega
            case rel => exact ⟨j + 1, by go_num, congrArg (Value.int .u64) (or_step L all HALL.out j (by omega) nj HNJ.out hnb), by omega, ⟨by omega⟩, BK, HB⟩
          · have : j = 8 := by omega
            subst this
            obtain ⟨nn, hnn⟩ : ∃ nn, numTo L 8 = nn := ⟨_, rfl⟩
            have hnb : nn < 18446744073709551616 := by rw [← hnn]; exact numTo_lt L 8
            rw [hnn]
            have HNN := Aside0.mk hnn
            clear hnn
            by_cases hfit : nn ≤ all.size - 8
            · have hq1 : (8 : Int) + (nn : Int) ≤ (all.size : Int) := by omega
              have hw1 : IntKind.i64.wrap (nn : Int) = (nn : Int) := IntWalk.i64_in _ (by omega)
              have hw2 : IntKind.i64.wrap (8 + (nn : Int)) = 8 + (nn : Int) := IntWalk.i64_in _ (by omega)
              go_wp2_with fail
              obtain ⟨s1, hs1⟩ : ∃ s1, all.extract 8 (8 + nn) = s1 := ⟨_, rfl⟩
              obtain ⟨s2, hs2⟩ : ∃ s2, all.extract (8 + nn) all.size = s2 := ⟨_, rfl⟩
              have hr1 : ∀ W, (Instr.slice 9 (.string all) (some (.int .i64 8)) (some (.int .i64 (8 + (nn : Int)))) none).run Tryz.prog W = .ok (.string s1) W := fun W => by
                rw [← hs1]
                have := slice_two all 8 (8 + nn) (by omega) (by omega) W
                rw [show ((8 + nn : Nat) : Int) = 8 + (nn : Int) by omega] at this
                exact this
              have hr2 : ∀ W, (Instr.slice 9 (.string all) (some (.int .i64 (8 + (nn : Int)))) none none).run Tryz.prog W = .ok (.string s2) W := fun W => by
                rw [← hs2]
                have := slice_one all (8 + nn) (by omega) W
                rw [show ((8 + nn : Nat) : Int) = 8 + (nn : Int) by omega] at this
                exact this
              have hl1 : s1.data.toList = streamL vs := by
                unfold streamL
                rw [HL.out, HNN.out, ← hs1, Lib.extract_data, HALL.out]
                simp [List.take_drop]
              have hl2 : s2.data.toList = restL vs := by
                unfold restL
                rw [HL.out, HNN.out, ← hs2, Lib.extract_to_end, HALL.out]
              have hz1 : s1.size = nn := by rw [← hs1, ByteArray.size_extract]; omega
              have hz2 : s2.size ≤ all.size := by rw [← hs2, ByteArray.size_extract]; omega
              have hok : joinOk vs D r S m = (decide (countB s1.size D r S m = ((vs.length : Int), 0)) && s2.data.toList.all (· == 0)) := by
                unfold joinOk
                rw [HSP.out, HL.out, ← HSZ.out, HNN.out, decide_eq_true (show (8 ≤ all.size ∧ nn ≤ all.size - 8) by omega), ← hl1, ← Lib.size_eq, ← hl2]
                simp
              have hj := HJ.out
              rw [hok, ← hl1, hz1] at hj
              clear HJ hok hs1 hs2 hl1 hl2
              obtain ⟨cn, ce⟩ : ∃ q, countB nn D r S m = q := ⟨_, rfl⟩
              obtain ⟨kc, hkc⟩ := (count_f (nn : Int) D r S m (by omega) (by omega)).rounds
              rw [ce] at hkc hj
              obtain ⟨x, e⟩ := cn
              have HC := Aside0.mk hkc
              clear hkc ce
              go_quiet (fail)
              have z0 := blk_cell BK.out 0
              have z1 := blk_cell BK.out 1
              have z2 := blk_cell BK.out 2
              have z3 := blk_cell BK.out 3
              simp only [List.getElem?_toArray, List.getElem?_cons_zero, List.getElem?_cons_succ] at z0 z1 z2 z3
              by_cases he : e = 0
              · subst he
                by_cases hx : x = (vs.length : Int)
                · subst hx
                  have htr : ∀ W, Calls Tryz.prog 37 #[.string s2, .string ⟨#[0]⟩] W fun e w' => e = .returned (.string ⟨(Lib.trimB s2.data.toList 0).toArray⟩) ∧ Below W.heap.size W w' := fun W => by
                    refine (Tryz.strings_Trim_one s2 0 (by decide) W (by omega)).mono ?_
                    rintro e w' ⟨rfl, rfl | rfl⟩
                    · exact ⟨rfl, Below.refl _ _⟩
                    · exact ⟨rfl, (Below.refl _ _).drew⟩
                  by_cases ht : s2.data.toList.all (· == 0) = true
                  · rw [(trim_empty _).2 ht] at htr
                    rw [ht] at hj
                    simp only [decide_true, Bool.and_self, if_true] at hj
                    obtain ⟨rfl, rfl⟩ := Prod.mk.inj hj
                    have HTR := Aside0.mk htr
                    clear htr hj ht
                    go_wp2_with (first | ((with_reducible refine gate_callee (f := 28) rfl ?_); refine goesL_ (some 74) rfl rfl Tryz.func28 (by kernel_rfl) rfl #[.int .i64 (nn : Int), .agg #[.int .i64 (D : Int), .int .i64 r, .int .i64 (S : Int), .int .i64 m]] rfl (by (try simp only [List.map_toArray, List.map_cons, List.map_nil]); first | done | rfl) ?_; (with_reducible refine (slice_Count.calls kc (nn : Int) D r S m _ _ _ HC.out).mono ?_); rintro e w7 ⟨rfl, hb⟩; refine ⟨_, rfl, ?_⟩; have HB1 := Aside0.mk (below_step (by repeat (first | (with_reducible first | exact HB.out | apply below_alloc | apply pw_below_drewN | apply below_drew1) | exact HB.out)) hb); clear HB; have HB := HB1; clear HB1; clear hb))
                    refine (HTR.out _).mono ?_
                    rintro e' w8 ⟨rfl, hb⟩
                    have HB2 := Aside0.mk (below_step HB.out hb)
                    clear hb
                    go_wp2_with fail
                    go_ret2
                    exact ⟨rfl, HB2.out⟩
                  · have ht' : (s2.data.toList.all (· == 0)) = false := by simpa using ht
                    rw [ht'] at hj
                    simp only [Bool.and_false, Bool.false_eq_true, if_false] at hj
                    obtain ⟨rfl, rfl⟩ := Prod.mk.inj hj
                    obtain ⟨tb, htb⟩ : ∃ tb : ByteArray, (⟨(Lib.trimB s2.data.toList 0).toArray⟩ : ByteArray) = tb := ⟨_, rfl⟩
                    have hte : tb.toList.isEmpty = false := by
                      rw [Lib.toList_data, ← htb]
                      cases hq : Lib.trimB s2.data.toList 0 with
                      | nil => exact absurd ((trim_empty _).1 hq) ht
                      | cons _ _ => rfl
                    rw [htb] at htr
                    have HTR := Aside0.mk htr
                    clear htr hj ht ht' htb
                    go_wp2_with (first | ((with_reducible refine gate_callee (f := 28) rfl ?_); refine goesL_ (some 74) rfl rfl Tryz.func28 (by kernel_rfl) rfl #[.int .i64 (nn : Int), .agg #[.int .i64 (D : Int), .int .i64 r, .int .i64 (S : Int), .int .i64 m]] rfl (by (try simp only [List.map_toArray, List.map_cons, List.map_nil]); first | done | rfl) ?_; (with_reducible refine (slice_Count.calls kc (nn : Int) D r S m _ _ _ HC.out).mono ?_); rintro e w7 ⟨rfl, hb⟩; refine ⟨_, rfl, ?_⟩; have HB1 := Aside0.mk (below_step (by repeat (first | (with_reducible first | exact HB.out | apply below_alloc | apply pw_below_drewN | apply below_drew1) | exact HB.out)) hb); clear HB; have HB := HB1; clear HB1; clear hb))
                    refine (HTR.out _).mono ?_
                    rintro e' w8 ⟨rfl, hb⟩
                    have HB2 := Aside0.mk (below_step HB.out hb)
                    clear hb
                    go_wp2_with fail
                    go_ret2
                    exact ⟨rfl, HB2.out⟩
                · rw [decide_eq_false (by intro h; exact hx (Prod.mk.inj h).1)] at hj
                  simp only [Bool.false_and, Bool.false_eq_true, if_false] at hj
                  obtain ⟨rfl, rfl⟩ := Prod.mk.inj hj
                  have hx1 : (x == (vs.length : Int)) = false := beq_eq_false_iff_ne.2 hx
                  have hx2 : (x != (vs.length : Int)) = true := bne_iff_ne.2 hx
                  clear hj hx
                  go_wp2_with (first | ((with_reducible refine gate_callee (f := 28) rfl ?_); refine goesL_ (some 74) rfl rfl Tryz.func28 (by kernel_rfl) rfl #[.int .i64 (nn : Int), .agg #[.int .i64 (D : Int), .int .i64 r, .int .i64 (S : Int), .int .i64 m]] rfl (by (try simp only [List.map_toArray, List.map_cons, List.map_nil]); first | done | rfl) ?_; (with_reducible refine (slice_Count.calls kc (nn : Int) D r S m _ _ _ HC.out).mono ?_); rintro e w7 ⟨rfl, hb⟩; refine ⟨_, rfl, ?_⟩; have HB1 := Aside0.mk (below_step (by repeat (first | (with_reducible first | exact HB.out | apply below_alloc | apply pw_below_drewN | apply below_drew1) | exact HB.out)) hb); clear HB; have HB := HB1; clear HB1; clear hb))
                  go_ret2
                  exact ⟨rfl, HB.out⟩
              · rw [decide_eq_false (by intro h; exact he (Prod.mk.inj h).2)] at hj
                simp only [Bool.false_and, Bool.false_eq_true, if_false] at hj
                obtain ⟨rfl, rfl⟩ := Prod.mk.inj hj
                have he1 : (e == 0) = false := beq_eq_false_iff_ne.2 he
                have he2 : (e != 0) = true := bne_iff_ne.2 he
                clear hj he
                go_wp2_with (first | ((with_reducible refine gate_callee (f := 28) rfl ?_); refine goesL_ (some 74) rfl rfl Tryz.func28 (by kernel_rfl) rfl #[.int .i64 (nn : Int), .agg #[.int .i64 (D : Int), .int .i64 r, .int .i64 (S : Int), .int .i64 m]] rfl (by (try simp only [List.map_toArray, List.map_cons, List.map_nil]); first | done | rfl) ?_; (with_reducible refine (slice_Count.calls kc (nn : Int) D r S m _ _ _ HC.out).mono ?_); rintro e w7 ⟨rfl, hb⟩; refine ⟨_, rfl, ?_⟩; have HB1 := Aside0.mk (below_step (by repeat (first | (with_reducible first | exact HB.out | apply below_alloc | apply pw_below_drewN | apply below_drew1) | exact HB.out)) hb); clear HB; have HB := HB1; clear HB1; clear hb))
                go_ret2
                exact ⟨rfl, HB.out⟩
            · have hj := HJ.out
              rw [show joinOk vs D r S m = false by unfold joinOk; rw [HL.out, ← HSZ.out, HNN.out, decide_eq_false (show ¬ (8 ≤ all.size ∧ nn ≤ all.size - 8) by omega)]; simp] at hj
              obtain ⟨rfl, rfl⟩ := Prod.mk.inj hj
              clear hj HJ
              go_wp2_with fail
              go_ret2
              exact ⟨rfl, HB.out⟩

theorem slice_Join.calls (A0 : Option Addr) (c0 : Nat) (l0 : List (List ByteArray)) (d r s m : Int) (r1 : ByteArray) (r2 : Int) (w : World) (hr0 : Kd.C (Kd.slice 9 Kd.string) w A0 l0.length l0) (hc0 : l0.length ≤ c0) (h : slice_Join.f l0 d r s m = some (r1, r2)) :
    Calls Tryz.prog 15 #[.slice A0 l0.length c0, .agg #[.int .i64 d, .int .i64 r, .int .i64 s, .int .i64 m]] w fun e w' => e = .returned (.tuple #[.string r1, .int .i64 r2]) ∧ Below w.heap.size w w' := by
  unfold slice_Join.f at h
  split at h
  · rename_i hv
    have hj := Option.some.inj h
    by_cases hsh : shapeB d r s m = true
    · have hb := shapeB_iff.1 hsh
      obtain ⟨D, rfl⟩ : ∃ D : Nat, d = (D : Int) := ⟨d.toNat, by omega⟩
      obtain ⟨S, rfl⟩ : ∃ S : Nat, s = (S : Int) := ⟨s.toNat, by omega⟩
      exact join_yes l0 A0 c0 r m w D S hv hsh hr0 hc0 r1 r2 hj
    · have hsh' : shapeB d r s m = false := by simpa using hsh
      unfold joinB at hj
      rw [if_neg hsh] at hj
      obtain ⟨rfl, rfl⟩ := Prod.mk.inj hj
      exact join_no l0 A0 c0 d r s m w hsh'
  · cases h
end Go.Proofs.YtnnkenbcdepafaaGreatDoor.H
