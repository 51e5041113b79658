/- The walk of slice.Cut: the rows of a stream, volume by volume (cutB), in new memory; nothing that lay there is changed. -/
import Derived.Test.YtnnkenbcdepafaaGreatDoorHCount
import Derived.Deep.RegionWith
import Derived.Deep.DeepCutAuto
namespace Go.Proofs.YtnnkenbcdepafaaGreatDoor.H
open Go.RowKit Go.Proofs.YtnnkenbcdepafaaGreatDoorW.PrintWords Go.Proofs.YtnnkenbcdepafaaGreatDoorW.PrintLast Go.Proofs.YtnnkenbcdepafaaGreatDoorW.PrintMore Go.Proofs.YtnnkenbcdepafaaGreatDoor.B
set_option linter.unusedVariables false
set_option linter.unusedSimpArgs false

theorem Bld.of_blk {w : World} {b : Nat} (h : w.heap[b]? = some (.cells #[.pointer none, .slice none 0 0] 60 (0, 0))) : Bld w b [] := by
  refine .inl ⟨Nat.le_refl _, .slice none 0 0, h, ?_, ?_⟩
  · exact World.ownsRowF_of (own_nil _ _ _ _)
  · simp [Value.ownBlock]

/-- Cut's answer, where the stream is Go's. -/
def slice_Cut.f (a : ByteArray) (d r s m : Int) : Option (List (List ByteArray) × Int) := if a.size ≤ 140737488351232 then some (cutB a d r s m) else none

set_option maxHeartbeats 4000000 in
set_option maxRecDepth 100000 in
theorem cut_no (a : ByteArray) (d r s m : Int) (w : World) (hs : a.size ≤ 140737488351232) (x e : Int) (hc : countB a.size d r s m = (x, e)) (he : e ≠ 0) :
    Calls Tryz.prog 14 #[.string a, .agg #[.int .i64 d, .int .i64 r, .int .i64 s, .int .i64 m]] w fun e' w' => e' = .returned (.tuple #[.slice none 0 0, .int .i64 e]) ∧ Below w.heap.size w w' := by
  have HB := Aside0.mk (Below.refl w.heap.size w)
  obtain ⟨kc, hkc⟩ := (count_f (a.size : Int) d r s m (by omega) (by omega)).rounds
  rw [hc] at hkc
  have HC := Aside0.mk hkc
  have he1 : (e == 0) = false := beq_eq_false_iff_ne.2 he
  have he2 : (e != 0) = true := bne_iff_ne.2 he
  clear hkc hc he
  go_enter Tryz.func14, Tryz.ntmps14
  go_wp2_with (first | ((with_reducible refine gate_dst (N := 3) rfl ?_); refine box_event ?hg (N := 3) ?hd (cs := #[.int .i64 d, .int .i64 r, .int .i64 s, .int .i64 m]) (t := 23) ?hr ?_; (case hd => rfl); (case hg => rfl); (case hr => first | (go_simp; done) | (go_simp; rfl)); intro gb hg w1 hbox hb; have HB1 := Aside0.mk (below_step HB.out hb); have GB := Aside0.mk (show w.heap.size ≤ gb by rw [hg]; exact below_size HB.out); clear HB; have HB := HB1; clear HB1; have BK := Aside0.mk hbox; clear hb hbox hg; have hcw1_0 : w1.cell? ⟨gb, 0, none⟩ = some (.int .i64 d) := (blk_cell BK.out 0).trans rfl; have hcw1_1 : w1.cell? ⟨gb, 1, none⟩ = some (.int .i64 r) := (blk_cell BK.out 1).trans rfl; have hcw1_2 : w1.cell? ⟨gb, 2, none⟩ = some (.int .i64 s) := (blk_cell BK.out 2).trans rfl; have hcw1_3 : w1.cell? ⟨gb, 3, none⟩ = some (.int .i64 m) := (blk_cell BK.out 3).trans rfl) | ((with_reducible refine gate_callee (f := 28) rfl ?_); refine goesL_ (some 17) rfl rfl Tryz.func28 (by kernel_rfl) rfl #[.int .i64 (a.size : Int), .agg #[.int .i64 d, .int .i64 r, .int .i64 s, .int .i64 m]] rfl (by (try simp only [List.map_toArray, List.map_cons, List.map_nil]); first | done | rfl) ?_; (with_reducible refine (slice_Count.calls kc (a.size : Int) d r s m _ _ _ HC.out).mono ?_); rintro e w2 ⟨rfl, hb⟩; refine ⟨_, rfl, ?_⟩; have HB1 := Aside0.mk (below_step HB.out hb); clear HB; have HB := HB1; clear HB1; have BK1 := Aside0.mk (blk_below (by exact BK.out) hb); clear BK; have BK := BK1; clear BK1; clear hb; have hcw2_0 : w2.cell? ⟨gb, 0, none⟩ = some (.int .i64 d) := (blk_cell BK.out 0).trans rfl; have hcw2_1 : w2.cell? ⟨gb, 1, none⟩ = some (.int .i64 r) := (blk_cell BK.out 1).trans rfl; have hcw2_2 : w2.cell? ⟨gb, 2, none⟩ = some (.int .i64 s) := (blk_cell BK.out 2).trans rfl; have hcw2_3 : w2.cell? ⟨gb, 3, none⟩ = some (.int .i64 m) := (blk_cell BK.out 3).trans rfl))
  go_ret2
  exact ⟨rfl, HB.out⟩

theorem byte_at (n q : Nat) (hq : 0 < q) : ((n : Int) / (q : Int) % 256).toNat.toUInt8 = UInt8.ofNat (n / q) := by
  rw [show ((n : Int) / (q : Int) % 256) = ((n / q % 256 : Nat) : Int) by omega, Int.toNat_natCast]
  apply UInt8.toNat_inj.1
  simp [Nat.toUInt8]
theorem byte_at1 (n : Nat) : ((n : Int) % 256).toNat.toUInt8 = UInt8.ofNat n := by
  rw [show ((n : Int) % 256) = ((n % 256 : Nat) : Int) by omega, Int.toNat_natCast]
  apply UInt8.toNat_inj.1
  simp [Nat.toUInt8]
theorem repeat_zero (n : Nat) : Lib.repeatL (⟨#[0]⟩ : ByteArray).data.toList n = List.replicate n 0 := by
  induction n with
  | zero => rfl
  | succ n ih => rw [Lib.repeatL, ih]; rfl
theorem Bld.below {W W' : World} {b : Nat} {l : List UInt8} (h : Bld W b l) (hb : Below W.heap.size W W') : Bld W' b l := by
  have one : ∀ p, Lib.BuilderAtF 60 5 b b p (Lib.byteCells l) W → Lib.BuilderAtF 60 5 b b p (Lib.byteCells l) W' := by
    rintro p ⟨h1, v, h2, h3, h4⟩
    refine ⟨h1, v, blk_below h2 hb, h3.kept (row := none) (grown_of_below hb none) ?_, h4⟩
    cases v.ownBlock with
    | none => exact .inl rfl
    | some g => exact .inr (by simp)
  rcases h with h | h
  · exact .inl (one _ h)
  · exact .inr (one _ h)
theorem Bld.drew {W : World} {b : Nat} {l : List UInt8} (h : Bld W b l) : Bld W.drew b l := h
theorem infoRows : (Tryz.prog.info? 39).map (fun i => (i.zero, i.size, i.bytes)) = some (some (.slice none 0 0), 1, 24) := by kernel_rfl
theorem bld_below {w W W' : World} {b : Nat} (h : Below w.heap.size w W) (hb : Below b W W') (hG : w.heap.size ≤ b) : Below w.heap.size w W' := h.trans (hb.mono hG)
theorem blk_stay {W W' : World} {b g : Nat} {o : Obj} (h : W.heap[g]? = some o) (hb : Below b W W') (hlt : g < b) : W'.heap[g]? = some o := (hb.block g hlt).trans h

set_option maxHeartbeats 4000000 in
set_option maxRecDepth 100000 in
theorem cut_yes (a : ByteArray) (r m : Int) (w : World) (K D S : Nat) (hK : 1 ≤ K ∧ K ≤ 96) (hD : 1 ≤ D ∧ D ≤ 64) (hS : 2 ≤ S ∧ S ≤ 512) (hc : countB a.size D r S m = ((K : Int), 0)) (hT : 8 + a.size ≤ K * D * S) (hT2 : K * D * S ≤ 3145728) :
    Calls Tryz.prog 14 #[.string a, .agg #[.int .i64 (D : Int), .int .i64 r, .int .i64 (S : Int), .int .i64 m]] w fun e w' => ∃ v0_ : Value, e = .returned (.tuple #[v0_, .int .i64 0]) ∧ Kd.S (Kd.slice 9 Kd.string) 39 w' w.heap.size (fun _ => True) v0_ (volsTo (allL a.data.toList (K * D * S)) D S K) ∧ Below w.heap.size w w' := by
  have HB := Aside0.mk (Below.refl w.heap.size w)
  obtain ⟨kc, hkc⟩ := (count_f (a.size : Int) D r S m (by omega) (by omega)).rounds
  rw [hc] at hkc
  have HC := Aside0.mk hkc
  clear hkc hc
  have HT := Aside0.mk hT
  clear hT
  go_enter Tryz.func14, Tryz.ntmps14
  go_wp2_with (first | ((with_reducible refine gate_dst (N := 3) rfl ?_); refine box_event ?hg (N := 3) ?hd (cs := #[.int .i64 (D : Int), .int .i64 r, .int .i64 (S : Int), .int .i64 m]) (t := 23) ?hr ?_; (case hd => rfl); (case hg => rfl); (case hr => first | (go_simp; done) | (go_simp; rfl)); intro gb hg w1 hbox hb; have HB1 := Aside0.mk (below_step HB.out hb); have GB := Aside0.mk (show w.heap.size ≤ gb by rw [hg]; exact below_size HB.out); clear HB; have HB := HB1; clear HB1; have BK := Aside0.mk hbox; clear hb hbox hg; have hcw1_0 : w1.cell? ⟨gb, 0, none⟩ = some (.int .i64 (D : Int)) := (blk_cell BK.out 0).trans rfl; have hcw1_1 : w1.cell? ⟨gb, 1, none⟩ = some (.int .i64 r) := (blk_cell BK.out 1).trans rfl; have hcw1_2 : w1.cell? ⟨gb, 2, none⟩ = some (.int .i64 (S : Int)) := (blk_cell BK.out 2).trans rfl; have hcw1_3 : w1.cell? ⟨gb, 3, none⟩ = some (.int .i64 m) := (blk_cell BK.out 3).trans rfl) | ((with_reducible refine gate_callee (f := 28) rfl ?_); refine goesL_ (some 17) rfl rfl Tryz.func28 (by kernel_rfl) rfl #[.int .i64 (a.size : Int), .agg #[.int .i64 (D : Int), .int .i64 r, .int .i64 (S : Int), .int .i64 m]] rfl (by (try simp only [List.map_toArray, List.map_cons, List.map_nil]); first | done | rfl) ?_; (with_reducible refine (slice_Count.calls kc (a.size : Int) D r S m _ _ _ HC.out).mono ?_); rintro e w2 ⟨rfl, hb⟩; refine ⟨_, rfl, ?_⟩; have HB1 := Aside0.mk (below_step HB.out hb); clear HB; have HB := HB1; clear HB1; have BK1 := Aside0.mk (blk_below (by exact BK.out) hb); clear BK; have BK := BK1; clear BK1; clear hb; have hcw2_0 : w2.cell? ⟨gb, 0, none⟩ = some (.int .i64 (D : Int)) := (blk_cell BK.out 0).trans rfl; have hcw2_1 : w2.cell? ⟨gb, 1, none⟩ = some (.int .i64 r) := (blk_cell BK.out 1).trans rfl; have hcw2_2 : w2.cell? ⟨gb, 2, none⟩ = some (.int .i64 (S : Int)) := (blk_cell BK.out 2).trans rfl; have hcw2_3 : w2.cell? ⟨gb, 3, none⟩ = some (.int .i64 m) := (blk_cell BK.out 3).trans rfl) | ((with_reducible refine gate_dst (N := 8) rfl ?_); refine box_event ?hg (N := 8) ?hd (cs := #[.pointer none, .slice none 0 0]) (t := 60) ?hr ?_; (case hd => rfl); (case hg => rfl); (case hr => first | (go_simp; done) | (go_simp; rfl)); intro b8 hg w3 hbox hb; have HB1 := Aside0.mk (below_step HB.out hb); have G8 := Aside0.mk (show w.heap.size ≤ b8 by rw [hg]; exact below_size HB.out); have L8 := Aside0.mk (show gb < b8 by rw [hg]; exact blk_lt BK.out); clear HB; have HB := HB1; clear HB1; have BK1 := Aside0.mk (blk_below (by exact BK.out) hb); clear BK; have BK := BK1; clear BK1; have BD := Aside0.mk (Bld.of_blk hbox); clear hb hbox hg; have hcw3_0 : w3.cell? ⟨gb, 0, none⟩ = some (.int .i64 (D : Int)) := (blk_cell BK.out 0).trans rfl; have hcw3_1 : w3.cell? ⟨gb, 1, none⟩ = some (.int .i64 r) := (blk_cell BK.out 1).trans rfl; have hcw3_2 : w3.cell? ⟨gb, 2, none⟩ = some (.int .i64 (S : Int)) := (blk_cell BK.out 2).trans rfl; have hcw3_3 : w3.cell? ⟨gb, 3, none⟩ = some (.int .i64 m) := (blk_cell BK.out 3).trans rfl))
  go_loopg [23] 8 (fun gk v23 w' => ∃ (i : Nat), v23 = .int .i64 (i : Int) ∧ i ≤ 8 ∧ Aside0 (8 - i ≤ gk) ∧ Aside0 (Bld w' b8 ((eightL a.size).take i)) ∧ Aside0 (w'.heap[gb]? = some (.cells #[.int .i64 (D : Int), .int .i64 r, .int .i64 (S : Int), .int .i64 m] 23 (0, 0))) ∧ Aside0 (Below w.heap.size w w'))
  case atStart => exact ⟨0, by rfl, by omega, ⟨by omega⟩, BD, BK, HB⟩
  case round =>
    clear BD BK HB
    obtain ⟨i, rfl, hi, HG, BD, BK, HB⟩ := hrel
    by_cases hlt : i < 8
    · obtain rfl | rfl | rfl | rfl | rfl | rfl | rfl | rfl : i = 0 ∨ i = 1 ∨ i = 2 ∨ i = 3 ∨ i = 4 ∨ i = 5 ∨ i = 6 ∨ i = 7 := by omega
      · have hby : ((a.size : Int) / 72057594037927936 % 256).toNat.toUInt8 = UInt8.ofNat (a.size / 72057594037927936) := byte_at a.size 72057594037927936 (by decide)
        have HY := Aside0.mk hby
        clear hby
        go_wp2_with (first | (go_at_call 29; refine (writeByte b8 _ _ _ (by omega) (by omega) BD.out (by rw [List.length_take]; omega)).mono ?_; rintro e' w4 ⟨rfl, hd, hb⟩; have BD2 := Aside0.mk hd; have BK2 := Aside0.mk (blk_stay BK.out hb L8.out); have HB2 := Aside0.mk (bld_below HB.out hb G8.out); clear hd hb BD BK HB))
        go_roundg (8 - (0 + 1))
        case measure => have := HG.out; omega
        case rel => exact ⟨1, by go_num, by omega, ⟨by omega⟩, ⟨by have h := BD2.out; rw [HY.out] at h; exact h⟩, BK2, HB2⟩
      · have hby : ((a.size : Int) / 281474976710656 % 256).toNat.toUInt8 = UInt8.ofNat (a.size / 281474976710656) := byte_at a.size 281474976710656 (by decide)
        have HY := Aside0.mk hby
        clear hby
        go_wp2_with (first | (go_at_call 29; refine (writeByte b8 _ _ _ (by omega) (by omega) BD.out (by rw [List.length_take]; omega)).mono ?_; rintro e' w4 ⟨rfl, hd, hb⟩; have BD2 := Aside0.mk hd; have BK2 := Aside0.mk (blk_stay BK.out hb L8.out); have HB2 := Aside0.mk (bld_below HB.out hb G8.out); clear hd hb BD BK HB))
        go_roundg (8 - (1 + 1))
        case measure => have := HG.out; omega
        case rel => exact ⟨2, by go_num, by omega, ⟨by omega⟩, ⟨by have h := BD2.out; rw [HY.out] at h; exact h⟩, BK2, HB2⟩
      · have hby : ((a.size : Int) / 1099511627776 % 256).toNat.toUInt8 = UInt8.ofNat (a.size / 1099511627776) := byte_at a.size 1099511627776 (by decide)
        have HY := Aside0.mk hby
        clear hby
        go_wp2_with (first | (go_at_call 29; refine (writeByte b8 _ _ _ (by omega) (by omega) BD.out (by rw [List.length_take]; omega)).mono ?_; rintro e' w4 ⟨rfl, hd, hb⟩; have BD2 := Aside0.mk hd; have BK2 := Aside0.mk (blk_stay BK.out hb L8.out); have HB2 := Aside0.mk (bld_below HB.out hb G8.out); clear hd hb BD BK HB))
        go_roundg (8 - (2 + 1))
        case measure => have := HG.out; omega
        case rel => exact ⟨3, by go_num, by omega, ⟨by omega⟩, ⟨by have h := BD2.out; rw [HY.out] at h; exact h⟩, BK2, HB2⟩
      · have hby : ((a.size : Int) / 4294967296 % 256).toNat.toUInt8 = UInt8.ofNat (a.size / 4294967296) := byte_at a.size 4294967296 (by decide)
        have HY := Aside0.mk hby
        clear hby
        go_wp2_with (first | (go_at_call 29; refine (writeByte b8 _ _ _ (by omega) (by omega) BD.out (by rw [List.length_take]; omega)).mono ?_; rintro e' w4 ⟨rfl, hd, hb⟩; have BD2 := Aside0.mk hd; have BK2 := Aside0.mk (blk_stay BK.out hb L8.out); have HB2 := Aside0.mk (bld_below HB.out hb G8.out); clear hd hb BD BK HB))
        go_roundg (8 - (3 + 1))
        case measure => have := HG.out; omega
        case rel => exact ⟨4, by go_num, by omega, ⟨by omega⟩, ⟨by have h := BD2.out; rw [HY.out] at h; exact h⟩, BK2, HB2⟩
      · have hby : ((a.size : Int) / 16777216 % 256).toNat.toUInt8 = UInt8.ofNat (a.size / 16777216) := byte_at a.size 16777216 (by decide)
        have HY := Aside0.mk hby
        clear hby
        go_wp2_with (first | (go_at_call 29; refine (writeByte b8 _ _ _ (by omega) (by omega) BD.out (by rw [List.length_take]; omega)).mono ?_; rintro e' w4 ⟨rfl, hd, hb⟩; have BD2 := Aside0.mk hd; have BK2 := Aside0.mk (blk_stay BK.out hb L8.out); have HB2 := Aside0.mk (bld_below HB.out hb G8.out); clear hd hb BD BK HB))
        go_roundg (8 - (4 + 1))
        case measure => have := HG.out; omega
        case rel => exact ⟨5, by go_num, by omega, ⟨by omega⟩, ⟨by have h := BD2.out; rw [HY.out] at h; exact h⟩, BK2, HB2⟩
      · have hby : ((a.size : Int) / 65536 % 256).toNat.toUInt8 = UInt8.ofNat (a.size / 65536) := byte_at a.size 65536 (by decide)
        have HY := Aside0.mk hby
        clear hby
        go_wp2_with (first | (go_at_call 29; refine (writeByte b8 _ _ _ (by omega) (by omega) BD.out (by rw [List.length_take]; omega)).mono ?_; rintro e' w4 ⟨rfl, hd, hb⟩; have BD2 := Aside0.mk hd; have BK2 := Aside0.mk (blk_stay BK.out hb L8.out); have HB2 := Aside0.mk (bld_below HB.out hb G8.out); clear hd hb BD BK HB))
        go_roundg (8 - (5 + 1))
        case measure => have := HG.out; omega
        case rel => exact ⟨6, by go_num, by omega, ⟨by omega⟩, ⟨by have h := BD2.out; rw [HY.out] at h; exact h⟩, BK2, HB2⟩
      · have hby : ((a.size : Int) / 256 % 256).toNat.toUInt8 = UInt8.ofNat (a.size / 256) := byte_at a.size 256 (by decide)
        have HY := Aside0.mk hby
        clear hby
        go_wp2_with (first | (go_at_call 29; refine (writeByte b8 _ _ _ (by omega) (by omega) BD.out (by rw [List.length_take]; omega)).mono ?_; rintro e' w4 ⟨rfl, hd, hb⟩; have BD2 := Aside0.mk hd; have BK2 := Aside0.mk (blk_stay BK.out hb L8.out); have HB2 := Aside0.mk (bld_below HB.out hb G8.out); clear hd hb BD BK HB))
        go_roundg (8 - (6 + 1))
        case measure => have := HG.out; omega
        case rel => exact ⟨7, by go_num, by omega, ⟨by omega⟩, ⟨by have h := BD2.out; rw [HY.out] at h; exact h⟩, BK2, HB2⟩
      · have hby := byte_at1 a.size
        have HY := Aside0.mk hby
        clear hby
        go_wp2_with (first | (go_at_call 29; refine (writeByte b8 _ _ _ (by omega) (by omega) BD.out (by rw [List.length_take]; omega)).mono ?_; rintro e' w4 ⟨rfl, hd, hb⟩; have BD2 := Aside0.mk hd; have BK2 := Aside0.mk (blk_stay BK.out hb L8.out); have HB2 := Aside0.mk (bld_below HB.out hb G8.out); clear hd hb BD BK HB))
        go_roundg (8 - (7 + 1))
        case measure => have := HG.out; omega
        case rel => exact ⟨8, by go_num, by omega, ⟨by omega⟩, ⟨by have h := BD2.out; rw [HY.out] at h; exact h⟩, BK2, HB2⟩
    · have hi8 : i = 8 := by omega
      subst hi8
      have BD1 := Aside0.mk (show Bld wr b8 (eightL a.size) from BD.out)
      clear BD
      have BD := BD1
      clear BD1
      have hT1 := HT.out
      have hl8 : (eightL a.size).length = 8 := rfl
      obtain ⟨KD, hKD⟩ : ∃ KD : Nat, K * D = KD := ⟨_, rfl⟩
      obtain ⟨T, hTe⟩ : ∃ T : Nat, KD * S = T := ⟨_, rfl⟩
      obtain ⟨Z, hZ⟩ : ∃ Z : Nat, T - (8 + a.size) = Z := ⟨_, rfl⟩
      have hKDi : (K : Int) * (D : Int) = (KD : Int) := by rw [← hKD, Int.natCast_mul]
      have hTi : (KD : Int) * (S : Int) = (T : Int) := by rw [← hTe, Int.natCast_mul]
      have hKDb : KD ≤ 96 * 64 := by rw [← hKD]; exact Nat.mul_le_mul hK.2 hD.2
      rw [hKD, hTe] at hT1 hT2
      have hw1 : IntKind.i64.wrap ((K : Int) * (D : Int)) = (KD : Int) := by rw [hKDi]; exact IntWalk.i64_in _ (by omega)
      have hw2 : IntKind.i64.wrap ((KD : Int) * (S : Int)) = (T : Int) := by rw [hTi]; exact IntWalk.i64_in _ (by omega)
      have hw3 : IntKind.i64.wrap ((T : Int) - (8 + (a.size : Int))) = (Z : Int) := by rw [show (T : Int) - (8 + (a.size : Int)) = (Z : Int) by omega]; exact IntWalk.i64_in _ (by omega)
      have hZb : Z ≤ 3145728 := by omega
      obtain ⟨zs, hzs⟩ : ∃ zs : ByteArray, (⟨(List.replicate Z 0).toArray⟩ : ByteArray) = zs := ⟨_, rfl⟩
      have HREP := Aside0.mk (show ∀ W, Calls Tryz.prog 31 #[.string ⟨#[0]⟩, .int .i64 (Z : Int)] W fun e w' => e = .returned (.string zs) ∧ Below W.heap.size W w' from fun W => by
        rw [← hzs, ← repeat_zero Z]
        exact Tryz.strings_Repeat ⟨#[0]⟩ Z W (by omega) (by show 1 * Z ≤ _; omega))
      have hzl : zs.size = Z := by rw [← hzs]; simp [ByteArray.size]
      obtain ⟨L1, hL1⟩ : ∃ L1, eightL a.size ++ a.data.toList = L1 := ⟨_, rfl⟩
      have hl1 : L1.length = 8 + a.size := by rw [← hL1, List.length_append, hl8, data_length]
      have HLEN := Aside0.mk (show ∀ W, Bld W b8 L1 → Calls Tryz.prog 32 #[.pointer (some ⟨b8, 0, none⟩)] W fun e w' => e = .returned (.int .i64 (8 + (a.size : Int))) ∧ W = w' from fun W h => by
        have := builderLen b8 _ W h
        rw [hl1, show (((8 + a.size : Nat) : Int)) = 8 + (a.size : Int) by omega] at this
        exact this)
      have HL1 := Aside0.mk hL1
      have HLL := Aside0.mk hl1
      have HZ := Aside0.mk hzs
      clear hzs hKDi hTi
      have HKD := Aside0.mk hKD
      have HTE := Aside0.mk hTe
      have HZE := Aside0.mk hZ
      clear hKD hTe hZ hL1 hl1
      go_wp2_with fail
      refine (writeString b8 _ a _ BD.out (by rw [hl8]; omega)).mono ?_
      rintro e' w4 ⟨rfl, hd, hb⟩
      rw [HL1.out] at hd
      have BD2 := Aside0.mk hd
      have BK2 := Aside0.mk (blk_stay BK.out hb L8.out)
      have HB2 := Aside0.mk (bld_below HB.out hb G8.out)
      clear hd hb BD BK HB hl8
      have hc4_0 := blk_cell BK2.out 0
      have hc4_1 := blk_cell BK2.out 2
      simp only [List.getElem?_toArray, List.getElem?_cons_zero, List.getElem?_cons_succ] at hc4_0 hc4_1
      go_upto_region 11 with fail
      go_cut [47] (fun s47 wx => Aside0 (Bld wx b8 (L1 ++ zs.data.toList)) ∧ Aside0 (wx.heap[gb]? = some (.cells #[.int .i64 (D : Int), .int .i64 r, .int .i64 (S : Int), .int .i64 m] 23 (0, 0))) ∧ Aside0 (Below w.heap.size w wx))
      case first =>
        go_region_with (first | (go_at_call 32; (with_reducible refine (HLEN.out _ ?_).mono ?_); exact BD2.out.drew; rintro e' w5 ⟨rfl, rfl⟩) | (go_at_call 31; (with_reducible refine (HREP.out _).mono ?_); rintro e' w5 ⟨rfl, hb⟩; have BD3 := Aside0.mk (BD2.out.drew.below hb); have BK3 := Aside0.mk (blk_below (blk_drew BK2.out) hb); have HB3 := Aside0.mk (below_step (below_drew HB2.out) hb); clear hb) | (go_at_call 30; (with_reducible refine (writeString b8 _ zs _ BD3.out ?_).mono ?_); (rw [HLL.out, hzl]; omega); rintro e' w6 ⟨rfl, hd, hb⟩; have BD4 := Aside0.mk hd; have BK4 := Aside0.mk (blk_stay BK3.out hb L8.out); have HB4 := Aside0.mk (bld_below HB3.out hb G8.out); clear hd hb))
        all_goals
          go_wp2_with fail
          go_meet
          exact ⟨BD4, BK4, HB4⟩
      case rest =>
        obtain ⟨BD, BK, HB⟩ := hcut
        clear HREP HLEN hw1 hw2 hw3 hc4_0 hc4_1 BK2 BD2 HB2
        have hall : L1 ++ zs.data.toList = allL a.data.toList (K * D * S) := by
          rw [← HL1.out, ← HZ.out]
          unfold allL
          rw [data_length, HKD.out, HTE.out]
          rw [HZE.out]
        rw [hall] at BD
        have halen : (allL a.data.toList (K * D * S)).length = K * D * S := allL_length _ _ (by rw [data_length]; exact HT.out)
        obtain ⟨all, hal⟩ : ∃ all, allL a.data.toList (K * D * S) = all := ⟨_, rfl⟩
        rw [hal] at BD halen
        have HAL := Aside0.mk hal
        clear hall hal
        go_wp2_with fail
        refine (builderString b8 all _ BD.out).mono ?_
        rintro e' w7 ⟨rfl, hb⟩
        have BK2 := Aside0.mk (blk_stay BK.out hb L8.out)
        have HB2 := Aside0.mk (bld_below HB.out hb G8.out)
        clear hb BK HB BD
        have BK := BK2
        have HB := HB2
        clear BK2 HB2
        have hK2 := hK.2
        have hD2 := hD.2
        have hS1 := hS.1
        have HH := Aside0.mk halen
        clear halen hT1 hT2
        go_wp2_with fail
        go_loopg [10, 11, 50] K (fun gk v10 v11 v50 w' => ∃ (v : Nat) (x10 : ByteArray), v50 = .int .i64 (v : Int) ∧ v10 = .string x10 ∧ v ≤ K ∧ Aside0 (x10.data.toList = all.drop (v * D * S)) ∧ Aside0 (K - v ≤ gk) ∧ Aside0 (Kd.S (Kd.slice 9 Kd.string) 39 w' w.heap.size (fun _ => True) v11 (volsTo all D S v)) ∧ Aside0 (w'.heap[gb]? = some (.cells #[.int .i64 (D : Int), .int .i64 r, .int .i64 (S : Int), .int .i64 m] 23 (0, 0))) ∧ Aside0 (Below w.heap.size w w'))
        case atStart => exact ⟨0, ⟨all.toArray⟩, by rfl, rfl, by omega, ⟨by simp⟩, ⟨by omega⟩, ⟨by first | exact Kd.S_nil _ _ _ _ _⟩, BK, HB⟩
        case round =>
          clear BK HB
          obtain ⟨v, x10, rfl, rfl, hv, HX, HK1, HO11, BK, HB⟩ := hrel
          have z0 := blk_cell BK.out 0
          have z2 := blk_cell BK.out 2
          simp only [List.getElem?_toArray, List.getElem?_cons_zero, List.getElem?_cons_succ] at z0 z2
          by_cases hvl : v < K
          · go_wp2_with fail
            go_loopg [10, 12, 54] D (fun gk v10 v12 v54 w' => ∃ (i : Nat) (x10 : ByteArray), v54 = .int .i64 (i : Int) ∧ v10 = .string x10 ∧ i ≤ D ∧ Aside0 (x10.data.toList = all.drop ((v * D + i) * S)) ∧ Aside0 (D - i ≤ gk) ∧ Aside0 (Kd.S (Kd.slice 9 Kd.string) 39 w' w.heap.size (fun k_ => some k_ ≠ (v12 : Value).ownBlock) u11 (volsTo all D S v)) ∧ Aside0 (Kd.R Kd.string 9 w' w.heap.size (fun _ => True) v12 (volTo all D S v i)) ∧ Aside0 (w'.heap[gb]? = some (.cells #[.int .i64 (D : Int), .int .i64 r, .int .i64 (S : Int), .int .i64 m] 23 (0, 0))) ∧ Aside0 (Below w.heap.size w w'))
            case atStart => exact ⟨0, x10, by rfl, rfl, by omega, ⟨by rw [HX.out]; simp⟩, ⟨by omega⟩, ⟨Kd.S_mono HO11.out (fun _ hk => (by simp [Value.ownBlock]))⟩, ⟨by first | exact Kd.R_nil _ _ _ _ _⟩, BK, HB⟩
            case round =>
              clear HX HO11 BK HB z0 z2
              obtain ⟨i, x10, rfl, rfl, hi, HX, HK2, HO11, HO12, BK, HB⟩ := hrel
              have z0 := blk_cell BK.out 0
              have z2 := blk_cell BK.out 2
              simp only [List.getElem?_toArray, List.getElem?_cons_zero, List.getElem?_cons_succ] at z0 z2
              by_cases hil : i < D
              · have hroom := row_room (s := S) hvl hil
                have hsz : S ≤ x10.size := by
                  rw [← data_length, HX.out, List.length_drop, HH.out]
                  omega
                have HX2 := Aside0.mk (show volTo all D S v i ++ [x10.extract 0 S] = volTo all D S v (i + 1) by
                  rw [volTo_snoc]
                  congr 2
                  refine ba_ext ?_
                  rw [Lib.extract_data, HX.out]
                  simp [rowL])
                have HX3 := Aside0.mk (show (x10.extract S x10.size).data.toList = all.drop ((v * D + (i + 1)) * S) by
                  rw [Lib.extract_to_end, HX.out, List.drop_drop]
                  congr 1
                  rw [← Nat.add_assoc, Nat.add_mul (v * D + i) 1 S]
                  omega)
                clear hroom
                go_wp2_with (first | ((with_reducible refine gate_builtin (b := .append) (xs := #[.tmp 56, .tmp 61]) rfl ?_); at_builtin; refine Kd.R_append Kd.string (w0 := w) w.heap.size rfl (.tmp 56) (.tmp 61) 39 9 (.string ⟨#[]⟩) 16 rfl Tryz.underlying39 info9 rfl (by decide) (by omega) u12 (volTo all D S v i) (x10.extract 0 S) [.string (x10.extract 0 S)] (fun _ => True) (fun _ => False) rfl rfl ?aP (fun _ hk => hk.elim) ?aF ?aO ?aB ?aS ?aL ?_; (case aP => exact rfl); (case aB => exact (by repeat (first | (with_reducible first | exact HB.out | apply below_alloc | apply pw_below_drewN | apply below_drew1) | exact HB.out))); (case aF => exact (fun _ _ => trivial)); (case aO => exact (by (with_reducible repeat (first | apply Kd.R_alloc | apply Kd.R_drewN | apply Kd.R_drew)); exact HO12.out)); (case aS => exact (below_size (by repeat (first | (with_reducible first | exact HB.out | apply below_alloc | apply pw_below_drewN | apply below_drew1) | exact HB.out)))); (case aL => rw [volTo_length]; omega); intro v121 w27 ho hb hg hat; rw [HX2.out] at ho; have n0_ := Aside0.mk (Kd.S_after (ok := (fun _ => True)) (by (with_reducible repeat (first | apply Kd.S_alloc | apply Kd.S_drewN | apply Kd.S_drew)); exact Kd.S_mono HO11.out (fun _ hk => ⟨trivial, hk⟩)) hg hat); have n1_ := Aside0.mk (blk_grown (g := gb) (o := .cells #[.int .i64 (D : Int), .int .i64 r, .int .i64 (S : Int), .int .i64 m] 23 (0, 0)) (by (with_reducible repeat (first | refine blk_drewN ?_ _ | refine blk_drew ?_ | refine blk_alloc ?_ _)); exact BK.out) hg (Kd.R_ne HO12.out BK.out (by decide))); have n2_ := Aside0.mk (hb); have n3_ := Aside0.mk (ho); clear HO11; clear BK; clear HB; clear HO12; have HO11 := n0_; have BK := n1_; have HB := n2_; have HO12 := n3_; clear n0_ n1_ n2_ n3_; clear ho hb hg hat; have y2 := blk_cell BK.out 2; simp only [List.getElem?_toArray, List.getElem?_cons_zero, List.getElem?_cons_succ] at y2))
                go_roundg (D - (i + 1))
                case measure => have := HK2.out; omega
                case rel => exact ⟨i + 1, x10.extract S x10.size, by go_num, by first | rfl | simp, by omega, HX3, ⟨by omega⟩, ⟨Kd.S_mono HO11.out (fun _ hk => hk.2)⟩, HO12, BK, HB⟩
              · have : D = i := by omega
                subst this
                obtain ⟨Ao31, co31, eo31⟩ := Kd.R_slice HO12.out
                subst eo31
                go_wp2_with (first | ((with_reducible refine gate_builtin (b := .append) (xs := #[.tmp 68, .tmp 70]) rfl ?_); at_builtin; refine Kd.S_append (Kd.slice 9 Kd.string) (w0 := w) w.heap.size rfl (.tmp 68) (.tmp 70) 35 39 (.slice none 0 0) 24 rfl Tryz.underlying35 infoRows rfl (by decide) (by omega) u11 (volsTo all D S v) (volTo all D S v D) [.slice Ao31 (volTo all D S v D).length co31] (fun _ => True) (fun k_ => some k_ = (.slice Ao31 (volTo all D S v D).length co31 : Value).ownBlock) rfl rfl ?aP (fun k_ hk_ => ((Kd.R_mono (ok' := fun k_ => ((fun _ => True)) k_ ∧ some k_ ≠ (u11 : Value).ownBlock) (Kd.R_apart' (HO12.out) (Kd.S_typed HO11.out) (by decide)) (fun k_ hk => ⟨trivial, hk.2⟩))).1 k_ hk_.symm) ?aF ?aO ?aB ?aS ?aL ?_; (case aP => exact Kd.M_row (Kd.R_mono (Kd.R_tight rfl (Kd.R_mono (ok' := fun k_ => ((fun _ => True)) k_ ∧ some k_ ≠ (u11 : Value).ownBlock) (Kd.R_apart' (HO12.out) (Kd.S_typed HO11.out) (by decide)) (fun k_ hk => ⟨trivial, hk.2⟩))) (fun _ h_ => h_))); (case aB => exact (by repeat (first | (with_reducible first | exact HB.out | apply below_alloc | apply pw_below_drewN | apply below_drew1) | exact HB.out))); (case aF => exact (fun _ _ => trivial)); (case aO => exact (by (with_reducible repeat (first | apply Kd.S_alloc | apply Kd.S_drewN | apply Kd.S_drew)); exact Kd.S_mono HO11.out (fun k_ hk => ⟨trivial, fun e_ => hk e_⟩))); (case aS => exact (below_size (by repeat (first | (with_reducible first | exact HB.out | apply below_alloc | apply pw_below_drewN | apply below_drew1) | exact HB.out)))); (case aL => rw [volsTo_length]; omega); intro v124 w30 ho hb hg hat; rw [← volsTo_snoc] at ho; have n0_ := Aside0.mk (blk_grown (g := gb) (o := .cells #[.int .i64 (D : Int), .int .i64 r, .int .i64 (S : Int), .int .i64 m] 23 (0, 0)) (by (with_reducible repeat (first | refine blk_drewN ?_ _ | refine blk_drew ?_ | refine blk_alloc ?_ _)); exact BK.out) hg (Kd.S_ne HO11.out BK.out (by decide))); have n1_ := Aside0.mk (hb); have n2_ := Aside0.mk (ho); clear BK; clear HB; clear HO11; clear HO12; have BK := n0_; have HB := n1_; have HO11 := n2_; clear n0_ n1_ n2_; clear ho hb hg hat))
                go_roundg (K - (v + 1))
                case measure => have := HK1.out; omega
                case rel => exact ⟨v + 1, x10, by go_num, rfl, by omega, ⟨by rw [HX.out, Nat.add_mul v 1 D, Nat.one_mul]⟩, ⟨by omega⟩, HO11, BK, HB⟩
          · have : K = v := by omega
            subst this
            go_wp2
            go_ret2
            exact ⟨_, rfl, by rw [HAL.out]; exact HO11.out, HB.out⟩

theorem slice_Cut.calls (a0 : ByteArray) (d r s m : Int) (r1 : List (List ByteArray)) (r2 : Int) (w : World) (h : slice_Cut.f a0 d r s m = some (r1, r2)) :
    Calls Tryz.prog 14 #[.string a0, .agg #[.int .i64 d, .int .i64 r, .int .i64 s, .int .i64 m]] w fun e w' => ∃ v0_ : Value, e = .returned (.tuple #[v0_, .int .i64 r2]) ∧ Kd.S (Kd.slice 9 Kd.string) 39 w' w.heap.size (fun _ => True) v0_ r1 ∧ Below w.heap.size w w' := by
  unfold slice_Cut.f at h
  split at h
  · rename_i hs
    have hq := Option.some.inj h
    unfold cutB at hq
    by_cases hc : (countB a0.size d r s m).2 = 0
    · rw [if_pos hc] at hq
      obtain ⟨rfl, rfl⟩ := Prod.mk.inj hq
      obtain ⟨hsh, hn, hk1, hk2, _, hroom⟩ := countB_ok hc
      have hb := shapeB_iff.1 hsh
      obtain ⟨D, rfl⟩ : ∃ D : Nat, d = (D : Int) := ⟨d.toNat, by omega⟩
      obtain ⟨S, rfl⟩ : ∃ S : Nat, s = (S : Int) := ⟨s.toNat, by omega⟩
      obtain ⟨K, hK⟩ : ∃ K : Nat, (countB a0.size D r S m).1 = (K : Int) := ⟨((countB a0.size D r S m).1).toNat, by omega⟩
      rw [hK] at hk1 hk2 hroom ⊢
      simp only [Int.toNat_natCast]
      have hT : ((K * D * S : Nat) : Int) = (K : Int) * ((D : Int) * (S : Int)) := by rw [Int.natCast_mul, Int.natCast_mul, Int.mul_assoc]
      have h1 : K * D ≤ 96 * 64 := Nat.mul_le_mul (by omega) (by omega)
      have h2 : K * D * S ≤ 96 * 64 * 512 := Nat.mul_le_mul h1 (by omega)
      exact cut_yes a0 r m w K D S (by omega) (by omega) (by omega) (by rw [← hK, ← hc]) (by omega) (by omega)
    · rw [if_neg hc] at hq
      obtain ⟨rfl, rfl⟩ := Prod.mk.inj hq
      refine (cut_no a0 d r s m w hs _ _ rfl hc).mono ?_
      rintro e w' ⟨rfl, hb⟩
      exact ⟨_, rfl, Kd.S_nil _ _ _ _ _, hb⟩
  · cases h
end Go.Proofs.YtnnkenbcdepafaaGreatDoor.H
