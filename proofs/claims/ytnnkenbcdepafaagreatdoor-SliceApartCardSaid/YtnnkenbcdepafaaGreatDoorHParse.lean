/- The walk of slice.Parse: the place whose name it is, or that there is none (parseB); nothing that lay there is changed. Conditions: LaidW. -/
import Derived.Test.YtnnkenbcdepafaaGreatDoorHName
import Derived.Test.YtnnkenbcdepafaaGreatDoorHC
import Derived.RegionTactic
import Derived.ChangeAlike
namespace Go.Proofs.YtnnkenbcdepafaaGreatDoor.H
open Go.RowKit Go.Proofs.YtnnkenbcdepafaaGreatDoorW.PrintWords Go.Proofs.YtnnkenbcdepafaaGreatDoorW.PrintLast Go.Proofs.YtnnkenbcdepafaaGreatDoorW.PrintMore Go.Proofs.YtnnkenbcdepafaaGreatDoor.B
set_option linter.unusedVariables false
set_option linter.unusedSimpArgs false

def cellsOf (l : Nat → Int) : Array Value := #[.int .i64 (l 0), .int .i64 (l 1), .int .i64 (l 2), .int .i64 (l 3), .int .i64 (l 4), .int .i64 (l 5)]
def upd (l : Nat → Int) (j : Nat) (n : Int) (q : Nat) : Int := if q = j then n else l q
theorem cellsOf_set (l : Nat → Int) (j : Nat) (hj : j < 6) (n : Int) : (cellsOf l).setIfInBounds j (.int .i64 n) = cellsOf (upd l j n) := by
  match j, hj with
  | 0, _ => rfl
  | 1, _ => rfl
  | 2, _ => rfl
  | 3, _ => rfl
  | 4, _ => rfl
  | 5, _ => rfl
theorem cellsOf_at (l : Nat → Int) (j : Nat) (hj : j < 6) : (cellsOf l)[j]? = some (.int .i64 (l j)) := by
  match j, hj with
  | 0, _ => rfl
  | 1, _ => rfl
  | 2, _ => rfl
  | 3, _ => rfl
  | 4, _ => rfl
  | 5, _ => rfl

theorem letters_get (j : Nat) (hj : j < 6) (h : j < (⟨#[100, 114, 115, 109, 107, 118]⟩ : ByteArray).size) : (⟨#[100, 114, 115, 109, 107, 118]⟩ : ByteArray)[j] = letter j := by
  match j, hj with
  | 0, _ => rfl
  | 1, _ => rfl
  | 2, _ => rfl
  | 3, _ => rfl
  | 4, _ => rfl
  | 5, _ => rfl
theorem indexByte_u8 (s : ByteArray) (c : UInt8) (w : World) : Calls Tryz.prog 20 #[.string s, .int .u8 (c.toNat : Int)] w fun e w' => e = .returned (.int .i64 (Lib.indexByte s.data.toList c)) ∧ w' = w := by
  have h := Tryz.strings_IndexByte s (c.toNat : Int) w
  rw [Int.toNat_natCast, show c.toNat.toUInt8 = c from UInt8.ofNat_toNat] at h
  exact h

theorem endOf_le (rest : ByteArray) (j : Nat) : endOf rest j ≤ rest.size := by
  unfold endOf
  split
  · rcases Int.lt_or_le (Lib.indexByte rest.data.toList (letter (j + 1))) 0 with h | h
    · omega
    · have := (Lib.indexByte_some (l := rest.data.toList) (c := letter (j + 1)) (o := (Lib.indexByte rest.data.toList (letter (j + 1))).toNat) (by omega)).1
      obtain ⟨h1, _⟩ := List.getElem?_eq_some_iff.1 this
      rw [data_length] at h1
      omega
  · omega

theorem set_at {W : World} {g T : Nat} {cs : Array Value} (hW : W.heap[g]? = some (.cells cs T (0, 0))) (i : Nat) (u : Value) : (W.setCell ⟨g, i, none⟩ u).heap[g]? = some (.cells (cs.setIfInBounds i u) T (0, 0)) := by
  simp [World.setCell, Array.getElem?_modify, hW]
/-- Seven stores into one block: what it holds then, and that nothing elder is changed. -/
theorem store7 {w w' : World} {g T : Nat} {o0 o1 o2 o3 o4 o5 o6 : Value} (h : w'.heap[g]? = some (.cells #[o0, o1, o2, o3, o4, o5, o6] T (0, 0))) (G : w.heap.size ≤ g) (hb : Below w.heap.size w w') (c0 c1 c2 c3 c4 c5 c6 : Value) :
    (((((((w'.setCell ⟨g, 0, none⟩ c0).setCell ⟨g, 1, none⟩ c1).setCell ⟨g, 2, none⟩ c2).setCell ⟨g, 3, none⟩ c3).setCell ⟨g, 4, none⟩ c4).setCell ⟨g, 5, none⟩ c5).setCell ⟨g, 6, none⟩ c6).heap[g]? = some (.cells #[c0, c1, c2, c3, c4, c5, c6] T (0, 0)) ∧ Below w.heap.size w (((((((w'.setCell ⟨g, 0, none⟩ c0).setCell ⟨g, 1, none⟩ c1).setCell ⟨g, 2, none⟩ c2).setCell ⟨g, 3, none⟩ c3).setCell ⟨g, 4, none⟩ c4).setCell ⟨g, 5, none⟩ c5).setCell ⟨g, 6, none⟩ c6) := by
  have h0 : (w'.setCell ⟨g, 0, none⟩ c0).heap[g]? = some (.cells #[c0, o1, o2, o3, o4, o5, o6] T (0, 0)) := by
    have q := set_at h 0 c0
    simp only [List.setIfInBounds_toArray, List.set_cons_zero, List.set_cons_succ] at q
    exact q
  have h1 : ((w'.setCell ⟨g, 0, none⟩ c0).setCell ⟨g, 1, none⟩ c1).heap[g]? = some (.cells #[c0, c1, o2, o3, o4, o5, o6] T (0, 0)) := by
    have q := set_at h0 1 c1
    simp only [List.setIfInBounds_toArray, List.set_cons_zero, List.set_cons_succ] at q
    exact q
  have h2 : (((w'.setCell ⟨g, 0, none⟩ c0).setCell ⟨g, 1, none⟩ c1).setCell ⟨g, 2, none⟩ c2).heap[g]? = some (.cells #[c0, c1, c2, o3, o4, o5, o6] T (0, 0)) := by
    have q := set_at h1 2 c2
    simp only [List.setIfInBounds_toArray, List.set_cons_zero, List.set_cons_succ] at q
    exact q
  have h3 : ((((w'.setCell ⟨g, 0, none⟩ c0).setCell ⟨g, 1, none⟩ c1).setCell ⟨g, 2, none⟩ c2).setCell ⟨g, 3, none⟩ c3).heap[g]? = some (.cells #[c0, c1, c2, c3, o4, o5, o6] T (0, 0)) := by
    have q := set_at h2 3 c3
    simp only [List.setIfInBounds_toArray, List.set_cons_zero, List.set_cons_succ] at q
    exact q
  have h4 : (((((w'.setCell ⟨g, 0, none⟩ c0).setCell ⟨g, 1, none⟩ c1).setCell ⟨g, 2, none⟩ c2).setCell ⟨g, 3, none⟩ c3).setCell ⟨g, 4, none⟩ c4).heap[g]? = some (.cells #[c0, c1, c2, c3, c4, o5, o6] T (0, 0)) := by
    have q := set_at h3 4 c4
    simp only [List.setIfInBounds_toArray, List.set_cons_zero, List.set_cons_succ] at q
    exact q
  have h5 : ((((((w'.setCell ⟨g, 0, none⟩ c0).setCell ⟨g, 1, none⟩ c1).setCell ⟨g, 2, none⟩ c2).setCell ⟨g, 3, none⟩ c3).setCell ⟨g, 4, none⟩ c4).setCell ⟨g, 5, none⟩ c5).heap[g]? = some (.cells #[c0, c1, c2, c3, c4, c5, o6] T (0, 0)) := by
    have q := set_at h4 5 c5
    simp only [List.setIfInBounds_toArray, List.set_cons_zero, List.set_cons_succ] at q
    exact q
  have h6 : (((((((w'.setCell ⟨g, 0, none⟩ c0).setCell ⟨g, 1, none⟩ c1).setCell ⟨g, 2, none⟩ c2).setCell ⟨g, 3, none⟩ c3).setCell ⟨g, 4, none⟩ c4).setCell ⟨g, 5, none⟩ c5).setCell ⟨g, 6, none⟩ c6).heap[g]? = some (.cells #[c0, c1, c2, c3, c4, c5, c6] T (0, 0)) := by
    have q := set_at h5 6 c6
    simp only [List.setIfInBounds_toArray, List.set_cons_zero, List.set_cons_succ] at q
    exact q
  have b0 : Below w.heap.size w (w'.setCell ⟨g, 0, none⟩ c0) := hb.setCell (p := ⟨g, 0, none⟩) G c0
  have b1 : Below w.heap.size w ((w'.setCell ⟨g, 0, none⟩ c0).setCell ⟨g, 1, none⟩ c1) := b0.setCell (p := ⟨g, 1, none⟩) G c1
  have b2 : Below w.heap.size w (((w'.setCell ⟨g, 0, none⟩ c0).setCell ⟨g, 1, none⟩ c1).setCell ⟨g, 2, none⟩ c2) := b1.setCell (p := ⟨g, 2, none⟩) G c2
  have b3 : Below w.heap.size w ((((w'.setCell ⟨g, 0, none⟩ c0).setCell ⟨g, 1, none⟩ c1).setCell ⟨g, 2, none⟩ c2).setCell ⟨g, 3, none⟩ c3) := b2.setCell (p := ⟨g, 3, none⟩) G c3
  have b4 : Below w.heap.size w (((((w'.setCell ⟨g, 0, none⟩ c0).setCell ⟨g, 1, none⟩ c1).setCell ⟨g, 2, none⟩ c2).setCell ⟨g, 3, none⟩ c3).setCell ⟨g, 4, none⟩ c4) := b3.setCell (p := ⟨g, 4, none⟩) G c4
  have b5 : Below w.heap.size w ((((((w'.setCell ⟨g, 0, none⟩ c0).setCell ⟨g, 1, none⟩ c1).setCell ⟨g, 2, none⟩ c2).setCell ⟨g, 3, none⟩ c3).setCell ⟨g, 4, none⟩ c4).setCell ⟨g, 5, none⟩ c5) := b4.setCell (p := ⟨g, 5, none⟩) G c5
  have b6 : Below w.heap.size w (((((((w'.setCell ⟨g, 0, none⟩ c0).setCell ⟨g, 1, none⟩ c1).setCell ⟨g, 2, none⟩ c2).setCell ⟨g, 3, none⟩ c3).setCell ⟨g, 4, none⟩ c4).setCell ⟨g, 5, none⟩ c5).setCell ⟨g, 6, none⟩ c6) := b5.setCell (p := ⟨g, 6, none⟩) G c6
  exact ⟨h6, b6⟩

theorem atoi_none (s : ByteArray) (hs : s.size ≤ 281474976710656) (h : atoiL s.data.toList = none) (W : World) (hL : LaidW W) :
    Calls Tryz.prog 21 #[.string s] W fun e w' => ∃ x t p, e = .returned (.tuple #[.int .i64 x, .iface t p]) ∧ Below W.heap.size W w' :=
  (atoi s W hs hL).mono fun e w' hq => by
    have h' : atoiO s = none := h
    simp only [AtoiSaid, h'] at hq
    exact hq
theorem atoi_some (s : ByteArray) (n : Int) (hs : s.size ≤ 281474976710656) (h : atoiL s.data.toList = some n) (W : World) (hL : LaidW W) :
    Calls Tryz.prog 21 #[.string s] W fun e w' => e = .returned (.tuple #[.int .i64 n, .nilIface]) ∧ Below W.heap.size W w' :=
  (atoi s W hs hL).mono fun e w' hq => by
    have h' : atoiO s = some n := h
    simp only [AtoiSaid, h'] at hq
    exact hq

/-- Parse's answer, where the name is Go's. -/
noncomputable def slice_Parse.f (name : ByteArray) : Option (ByteArray × Int × Int × Int × Int × Int × Int × Int) := if name.size ≤ 140737488351232 then some (parseB name) else none

def ParseSaid (w : World) (res : ByteArray × Int × Int × Int × Int × Int × Int × Int) (e : Ending) (w' : World) : Prop :=
  e = .returned (.tuple #[.agg #[.string res.1, .int .i64 res.2.1, .int .i64 res.2.2.1, .int .i64 res.2.2.2.1, .int .i64 res.2.2.2.2.1, .int .i64 res.2.2.2.2.2.1, .int .i64 res.2.2.2.2.2.2.1], .int .i64 res.2.2.2.2.2.2.2]) ∧ Below w.heap.size w w'

set_option maxHeartbeats 4000000 in
set_option maxRecDepth 100000 in
theorem parse_walk (name : ByteArray) (w : World) (hs : name.size ≤ 140737488351232) (hL : LaidW w) :
    Calls Tryz.prog 8 #[.string name] w (ParseSaid w (parseB name)) := by
  have HB := Aside0.mk (Below.refl w.heap.size w)
  have HLAID := Aside0.mk hL
  have HC := Aside0.mk (fun W => stringsCut name W (by omega))
  have HI := Aside0.mk (inv_start name (fun _ => 0))
  have hrs : (cutDot name).2.1.size ≤ name.size := by
    unfold cutDot
    split
    · exact Nat.zero_le _
    · rw [ByteArray.size_extract]; omega
  have hbs : (cutDot name).1.size ≤ name.size := by
    unfold cutDot
    split
    · exact Nat.le_refl _
    · rw [ByteArray.size_extract]; omega
  clear hL
  obtain ⟨x, hx⟩ : ∃ x, cutDot name = x := ⟨_, rfl⟩
  rw [hx] at HC HI hrs hbs
  clear hx
  obtain ⟨base, rest0, x3⟩ := x
  go_enter Tryz.func8, Tryz.ntmps8
  go_wp2_with (first | ((with_reducible refine gate_dst (N := 2) rfl ?_); refine box_event ?hg (N := 2) ?hd (cs := #[.string ⟨#[]⟩, .int .i64 0, .int .i64 0, .int .i64 0, .int .i64 0, .int .i64 0, .int .i64 0]) (t := 25) ?hr ?_; (case hd => rfl); (case hg => rfl); (case hr => first | (go_simp; done) | (go_simp; rfl)); intro b2 hg w1 hbox hb; have HB1 := Aside0.mk (below_step HB.out hb); have G2 := Aside0.mk (show w.heap.size ≤ b2 by rw [hg]; exact below_size HB.out); clear HB; have HB := HB1; clear HB1; have B2 := Aside0.mk hbox; clear hb hbox hg) | ((with_reducible refine gate_callee (f := 19) rfl ?_); refine goesL_ (some 17) rfl rfl Tryz.func19 (by kernel_rfl) rfl #[.string name, .string ⟨#[46]⟩] rfl (by (try simp only [List.map_toArray, List.map_cons, List.map_nil]); first | done | rfl) ?_; (with_reducible refine (HC.out _).mono ?_); rintro e w2 ⟨rfl, hb⟩; refine ⟨_, rfl, ?_⟩; have HB1 := Aside0.mk (below_step HB.out hb); clear HB; have HB := HB1; clear HB1; have BK1 := Aside0.mk (blk_below (by exact B2.out) hb); clear B2; have B2 := BK1; clear BK1; clear hb) | ((with_reducible refine gate_dst (N := 7) rfl ?_); refine box_event ?hg (N := 7) ?hd (cs := #[.int .i64 0, .int .i64 0, .int .i64 0, .int .i64 0, .int .i64 0, .int .i64 0]) (t := 40) ?hr ?_; (case hd => rfl); (case hg => rfl); (case hr => first | (go_simp; done) | (go_simp; rfl)); intro bl hg w3 hbox hb; have HB1 := Aside0.mk (below_step HB.out hb); have GL := Aside0.mk (show w.heap.size ≤ bl by rw [hg]; exact below_size HB.out); have BK1 := Aside0.mk (blk_below (by exact B2.out) hb); clear B2; have B2 := BK1; clear BK1; clear HB; have HB := HB1; clear HB1; have BL := Aside0.mk hbox; clear hb hbox hg))
  go_loopg [5, 21] 6 (fun gk v5 v21 w' => ∃ (j : Nat) (rest : ByteArray) (l : Nat → Int), v5 = .string rest ∧ v21 = .int .i64 (j : Int) ∧ j ≤ 6 ∧ Aside0 (6 - j ≤ gk) ∧ Aside0 (Inv name base rest l j) ∧ rest.size ≤ name.size ∧ Aside0 (∀ q, -9223372036854775808 ≤ l q ∧ l q ≤ 9223372036854775807) ∧ Aside0 (w'.heap[bl]? = some (.cells (cellsOf l) 40 (0, 0))) ∧ Aside0 (w'.heap[b2]? = some (.cells #[.string ⟨#[]⟩, .int .i64 0, .int .i64 0, .int .i64 0, .int .i64 0, .int .i64 0, .int .i64 0] 25 (0, 0))) ∧ Aside0 (Below w.heap.size w w'))
  case atStart => exact ⟨0, rest0, fun _ => 0, rfl, by rfl, by omega, ⟨by omega⟩, HI, hrs, ⟨fun _ => by show (-9223372036854775808 : Int) ≤ 0 ∧ (0 : Int) ≤ 9223372036854775807; omega⟩, BL, B2, HB⟩
  case round =>
    clear BL B2 HB HI hrs
    obtain ⟨j, rest, l, rfl, rfl, hj, HG, HI, hrs, HR, BL, B2, HB⟩ := hrel
    by_cases hlt : j < 6
    · obtain ⟨e, he⟩ : ∃ e, endOf rest j = e := ⟨_, rfl⟩
      by_cases h5 : j < 5
      · have HIX := Aside0.mk (show ∀ (c : Int), c = ((letter (j + 1)).toNat : Int) → ∀ W, Calls Tryz.prog 20 #[.string rest, .int .u8 c] W fun e' w' => e' = .returned (.int .i64 e) ∧ W = w' from fun c hc W => by
          rw [hc, ← he]
          unfold endOf
          rw [if_pos h5]
          exact (indexByte_u8 rest _ W).mono fun e' w' ⟨h1, h2⟩ => ⟨h1, h2.symm⟩)
        by_cases h1 : e < 1
        · have HN := Aside0.mk (parseB_none (inv_end HI.out hlt (by rw [he]; exact h1)))
          rw [HN.out]
          clear he
          have z0 := blk_cell B2.out 0; have y0 := blk_frozen B2.out 0; have z1 := blk_cell B2.out 1; have y1 := blk_frozen B2.out 1; have z2 := blk_cell B2.out 2; have y2 := blk_frozen B2.out 2; have z3 := blk_cell B2.out 3; have y3 := blk_frozen B2.out 3; have z4 := blk_cell B2.out 4; have y4 := blk_frozen B2.out 4; have z5 := blk_cell B2.out 5; have y5 := blk_frozen B2.out 5; have z6 := blk_cell B2.out 6; have y6 := blk_frozen B2.out 6; simp only [List.getElem?_toArray, List.getElem?_cons_zero, List.getElem?_cons_succ] at z0 z1 z2 z3 z4 z5 z6
          go_wp2_with (first | (go_at_call 20; refine (HIX.out _ (by rw [letters_get (j + 1) (by omega)]) _).mono ?_; rintro e' w4 ⟨rfl, rfl⟩))
          refine bodyPost_ret (v := .tuple #[.agg #[.string ⟨#[]⟩, .int .i64 0, .int .i64 0, .int .i64 0, .int .i64 0, .int .i64 0, .int .i64 0], .int .i64 4]) (results_ct Tryz.results8 _ _ b2 25 #[.string ⟨#[]⟩, .int .i64 0, .int .i64 0, .int .i64 0, .int .i64 0, .int .i64 0, .int .i64 0] (0, 0) _ rfl (store7 B2.out G2.out HB.out _ _ _ _ _ _ _).1 Tryz.underlying25 rfl (by kernel_rfl)) rfl ?_
          unfold ParseSaid
          exact ⟨by first | rfl | rw [HN.out], (store7 B2.out G2.out HB.out _ _ _ _ _ _ _).2⟩
        · have hle : e ≤ rest.size := by rw [← he]; exact endOf_le rest j
          obtain ⟨en, rfl⟩ : ∃ en : Nat, e = (en : Int) := ⟨e.toNat, by omega⟩
          have hen1 : 1 ≤ en := by omega
          have hen2 : en ≤ rest.size := by omega
          have hxs : (rest.extract 1 en).size ≤ 281474976710656 := by rw [ByteArray.size_extract]; omega
          cases hat : atoiL (rest.extract 1 en).data.toList with
          | none =>
            have HN := Aside0.mk (parseB_none (inv_atoi HI.out hlt (by rw [he, Int.toNat_natCast]; exact hat)))
            rw [HN.out]
            have HAT := Aside0.mk (atoi_none _ hxs hat)
            clear he hat hxs
            go_wp2_with (first | (go_at_call 20; refine (HIX.out _ (by rw [letters_get (j + 1) (by omega)]) _).mono ?_; rintro e' w4 ⟨rfl, rfl⟩) | (go_at_call 21; refine (HAT.out _ (LaidW.of HLAID HB.out)).mono ?_; rintro e' w5 ⟨x, tt, pp, rfl, hb⟩; have HB1 := Aside0.mk (below_step HB.out hb); clear HB; have HB := HB1; clear HB1; have BK1 := Aside0.mk (blk_below (by exact B2.out) hb); clear B2; have B2 := BK1; clear BK1; have BK1 := Aside0.mk (blk_below (by exact BL.out) hb); clear BL; have BL := BK1; clear BK1; clear hb; have z0 := blk_cell B2.out 0; have y0 := blk_frozen B2.out 0; have z1 := blk_cell B2.out 1; have y1 := blk_frozen B2.out 1; have z2 := blk_cell B2.out 2; have y2 := blk_frozen B2.out 2; have z3 := blk_cell B2.out 3; have y3 := blk_frozen B2.out 3; have z4 := blk_cell B2.out 4; have y4 := blk_frozen B2.out 4; have z5 := blk_cell B2.out 5; have y5 := blk_frozen B2.out 5; have z6 := blk_cell B2.out 6; have y6 := blk_frozen B2.out 6; simp only [List.getElem?_toArray, List.getElem?_cons_zero, List.getElem?_cons_succ] at z0 z1 z2 z3 z4 z5 z6))
            refine bodyPost_ret (v := .tuple #[.agg #[.string ⟨#[]⟩, .int .i64 0, .int .i64 0, .int .i64 0, .int .i64 0, .int .i64 0, .int .i64 0], .int .i64 4]) (results_ct Tryz.results8 _ _ b2 25 #[.string ⟨#[]⟩, .int .i64 0, .int .i64 0, .int .i64 0, .int .i64 0, .int .i64 0, .int .i64 0] (0, 0) _ rfl (store7 B2.out G2.out HB.out _ _ _ _ _ _ _).1 Tryz.underlying25 rfl (by kernel_rfl)) rfl ?_
            unfold ParseSaid
            exact ⟨by first | rfl | rw [HN.out], (store7 B2.out G2.out HB.out _ _ _ _ _ _ _).2⟩
          | some n =>
            have HI2 := Aside0.mk (inv_step (l' := upd l j n) n HI.out hlt (by rw [he, Int.toNat_natCast]; exact hat) (by simp [upd]) (fun q hq => by simp [upd]; omega))
            rw [he, Int.toNat_natCast] at HI2
            have HAT := Aside0.mk (atoi_some _ n hxs hat)
            have HR2 : Aside0 (∀ q, -9223372036854775808 ≤ upd l j n q ∧ upd l j n q ≤ 9223372036854775807) := ⟨fun q => by
              have h1 := HR.out q
              have h2 := atoiL_range _ _ hat
              unfold upd
              split
              · exact h2
              · exact h1⟩
            clear he hat hxs HI
            go_wp2_with (first | (go_at_call 20; refine (HIX.out _ (by rw [letters_get (j + 1) (by omega)]) _).mono ?_; rintro e' w4 ⟨rfl, rfl⟩) | (go_at_call 21; refine (HAT.out _ (LaidW.of HLAID HB.out)).mono ?_; rintro e' w5 ⟨rfl, hb⟩; have HB1 := Aside0.mk (below_step HB.out hb); clear HB; have HB := HB1; clear HB1; have BK1 := Aside0.mk (blk_below (by exact B2.out) hb); clear B2; have B2 := BK1; clear BK1; have BK1 := Aside0.mk (blk_below (by exact BL.out) hb); clear BL; have BL := BK1; clear BK1; clear hb; have hcj := (blk_cell BL.out j).trans (cellsOf_at l j hlt); have hfj := blk_frozen BL.out j))
            go_region
            have hk := set_at BL.out j (.int .i64 n)
            rw [cellsOf_set l j hlt n] at hk
            have BL2 := Aside0.mk (show (w5.setCell ⟨bl, j, none⟩ (.int .i64 n)).drew.heap[bl]? = _ from hk)
            have B22 := Aside0.mk (show (w5.setCell ⟨bl, j, none⟩ (.int .i64 n)).drew.heap[b2]? = some (.cells #[.string ⟨#[]⟩, .int .i64 0, .int .i64 0, .int .i64 0, .int .i64 0, .int .i64 0, .int .i64 0] 25 (0, 0)) from (Below.heap_setCell w5 ⟨bl, j, none⟩ (.int .i64 n) b2 (blk_ne B2.out BL.out (by decide))).trans B2.out)
            have HB2 := Aside0.mk (show Below w.heap.size w (w5.setCell ⟨bl, j, none⟩ (.int .i64 n)).drew from (HB.out.setCell (p := ⟨bl, j, none⟩) GL.out _).drew)
            generalize (w5.setCell ⟨bl, j, none⟩ (.int .i64 n)).drew = w6 at *
            clear hk hcj hfj BL B2 HB HIX HAT
            go_wp2
            go_roundg (6 - (j + 1))
            case measure => have := HG.out; omega
            case rel => exact ⟨j + 1, rest.extract en rest.size, upd l j n, rfl, by go_num, by omega, ⟨by omega⟩, HI2, by rw [ByteArray.size_extract]; omega, HR2, BL2, B22, HB2⟩
      · have h6 : e = (rest.size : Int) := by rw [← he]; unfold endOf; rw [if_neg h5]
        subst h6
        by_cases h1 : (rest.size : Int) < 1
        · have HN := Aside0.mk (parseB_none (inv_end HI.out hlt (by rw [he]; exact h1)))
          rw [HN.out]
          clear he
          have z0 := blk_cell B2.out 0; have y0 := blk_frozen B2.out 0; have z1 := blk_cell B2.out 1; have y1 := blk_frozen B2.out 1; have z2 := blk_cell B2.out 2; have y2 := blk_frozen B2.out 2; have z3 := blk_cell B2.out 3; have y3 := blk_frozen B2.out 3; have z4 := blk_cell B2.out 4; have y4 := blk_frozen B2.out 4; have z5 := blk_cell B2.out 5; have y5 := blk_frozen B2.out 5; have z6 := blk_cell B2.out 6; have y6 := blk_frozen B2.out 6; simp only [List.getElem?_toArray, List.getElem?_cons_zero, List.getElem?_cons_succ] at z0 z1 z2 z3 z4 z5 z6
          go_wp2
          refine bodyPost_ret (v := .tuple #[.agg #[.string ⟨#[]⟩, .int .i64 0, .int .i64 0, .int .i64 0, .int .i64 0, .int .i64 0, .int .i64 0], .int .i64 4]) (results_ct Tryz.results8 _ _ b2 25 #[.string ⟨#[]⟩, .int .i64 0, .int .i64 0, .int .i64 0, .int .i64 0, .int .i64 0, .int .i64 0] (0, 0) _ rfl (store7 B2.out G2.out HB.out _ _ _ _ _ _ _).1 Tryz.underlying25 rfl (by kernel_rfl)) rfl ?_
          unfold ParseSaid
          exact ⟨by first | rfl | rw [HN.out], (store7 B2.out G2.out HB.out _ _ _ _ _ _ _).2⟩
        · have hen1 : 1 ≤ rest.size := by omega
          have hxs : (rest.extract 1 rest.size).size ≤ 281474976710656 := by rw [ByteArray.size_extract]; omega
          cases hat : atoiL (rest.extract 1 rest.size).data.toList with
          | none =>
            have HN := Aside0.mk (parseB_none (inv_atoi HI.out hlt (by rw [he, Int.toNat_natCast]; exact hat)))
            rw [HN.out]
            have HAT := Aside0.mk (atoi_none _ hxs hat)
            clear he hat hxs
            go_wp2_with (first | (go_at_call 21; refine (HAT.out _ (LaidW.of HLAID HB.out)).mono ?_; rintro e' w5 ⟨x, tt, pp, rfl, hb⟩; have HB1 := Aside0.mk (below_step HB.out hb); clear HB; have HB := HB1; clear HB1; have BK1 := Aside0.mk (blk_below (by exact B2.out) hb); clear B2; have B2 := BK1; clear BK1; have BK1 := Aside0.mk (blk_below (by exact BL.out) hb); clear BL; have BL := BK1; clear BK1; clear hb; have z0 := blk_cell B2.out 0; have y0 := blk_frozen B2.out 0; have z1 := blk_cell B2.out 1; have y1 := blk_frozen B2.out 1; have z2 := blk_cell B2.out 2; have y2 := blk_frozen B2.out 2; have z3 := blk_cell B2.out 3; have y3 := blk_frozen B2.out 3; have z4 := blk_cell B2.out 4; have y4 := blk_frozen B2.out 4; have z5 := blk_cell B2.out 5; have y5 := blk_frozen B2.out 5; have z6 := blk_cell B2.out 6; have y6 := blk_frozen B2.out 6; simp only [List.getElem?_toArray, List.getElem?_cons_zero, List.getElem?_cons_succ] at z0 z1 z2 z3 z4 z5 z6))
            refine bodyPost_ret (v := .tuple #[.agg #[.string ⟨#[]⟩, .int .i64 0, .int .i64 0, .int .i64 0, .int .i64 0, .int .i64 0, .int .i64 0], .int .i64 4]) (results_ct Tryz.results8 _ _ b2 25 #[.string ⟨#[]⟩, .int .i64 0, .int .i64 0, .int .i64 0, .int .i64 0, .int .i64 0, .int .i64 0] (0, 0) _ rfl (store7 B2.out G2.out HB.out _ _ _ _ _ _ _).1 Tryz.underlying25 rfl (by kernel_rfl)) rfl ?_
            unfold ParseSaid
            exact ⟨by first | rfl | rw [HN.out], (store7 B2.out G2.out HB.out _ _ _ _ _ _ _).2⟩
          | some n =>
            have HI2 := Aside0.mk (inv_step (l' := upd l j n) n HI.out hlt (by rw [he, Int.toNat_natCast]; exact hat) (by simp [upd]) (fun q hq => by simp [upd]; omega))
            rw [he, Int.toNat_natCast] at HI2
            rw [show rest.extract rest.size rest.size = ByteArray.empty from ba_ext (by rw [Lib.extract_data]; simp)] at HI2
            have HAT := Aside0.mk (atoi_some _ n hxs hat)
            have HR2 : Aside0 (∀ q, -9223372036854775808 ≤ upd l j n q ∧ upd l j n q ≤ 9223372036854775807) := ⟨fun q => by
              have h1 := HR.out q
              have h2 := atoiL_range _ _ hat
              unfold upd
              split
              · exact h2
              · exact h1⟩
            clear he hat hxs HI
            go_wp2_with (first | (go_at_call 21; refine (HAT.out _ (LaidW.of HLAID HB.out)).mono ?_; rintro e' w5 ⟨rfl, hb⟩; have HB1 := Aside0.mk (below_step HB.out hb); clear HB; have HB := HB1; clear HB1; have BK1 := Aside0.mk (blk_below (by exact B2.out) hb); clear B2; have B2 := BK1; clear BK1; have BK1 := Aside0.mk (blk_below (by exact BL.out) hb); clear BL; have BL := BK1; clear BK1; clear hb; have hcj := (blk_cell BL.out j).trans (cellsOf_at l j hlt); have hfj := blk_frozen BL.out j))
            go_region
            have hk := set_at BL.out j (.int .i64 n)
            rw [cellsOf_set l j hlt n] at hk
            have BL2 := Aside0.mk (show (w5.setCell ⟨bl, j, none⟩ (.int .i64 n)).drew.heap[bl]? = _ from hk)
            have B22 := Aside0.mk (show (w5.setCell ⟨bl, j, none⟩ (.int .i64 n)).drew.heap[b2]? = some (.cells #[.string ⟨#[]⟩, .int .i64 0, .int .i64 0, .int .i64 0, .int .i64 0, .int .i64 0, .int .i64 0] 25 (0, 0)) from (Below.heap_setCell w5 ⟨bl, j, none⟩ (.int .i64 n) b2 (blk_ne B2.out BL.out (by decide))).trans B2.out)
            have HB2 := Aside0.mk (show Below w.heap.size w (w5.setCell ⟨bl, j, none⟩ (.int .i64 n)).drew from (HB.out.setCell (p := ⟨bl, j, none⟩) GL.out _).drew)
            generalize (w5.setCell ⟨bl, j, none⟩ (.int .i64 n)).drew = w6 at *
            clear hk hcj hfj BL B2 HB HAT
            go_wp2
            go_roundg (6 - (j + 1))
            case measure => have := HG.out; omega
            case rel => exact ⟨j + 1, ByteArray.empty, upd l j n, rfl, by go_num, by omega, ⟨by omega⟩, HI2, Nat.zero_le _, HR2, BL2, B22, HB2⟩
    · have h6 : j = 6 := by omega
      subst h6
      have hin : (-9223372036854775808 ≤ l 5 ∧ l 5 ≤ 9223372036854775807) ∧ (-9223372036854775808 ≤ l 4 ∧ l 4 ≤ 9223372036854775807) ∧ base.size ≤ 9223372036854775807 := ⟨HR.out 5, HR.out 4, by omega⟩
      have x0 := (blk_cell BL.out 0).trans (cellsOf_at l 0 (by decide)); have x1 := (blk_cell BL.out 1).trans (cellsOf_at l 1 (by decide)); have x2 := (blk_cell BL.out 2).trans (cellsOf_at l 2 (by decide)); have x3 := (blk_cell BL.out 3).trans (cellsOf_at l 3 (by decide)); have x4 := (blk_cell BL.out 4).trans (cellsOf_at l 4 (by decide)); have x5 := (blk_cell BL.out 5).trans (cellsOf_at l 5 (by decide))
      by_cases hp : placeB base (l 5) (l 4) (l 0) (l 1) (l 2) (l 3) = true
      · have HF := Aside0.mk (show slice_Name.f base (l 5) (l 4) (l 0) (l 1) (l 2) (l 3) = some (nameB base (l 5) (l 4) (l 0) (l 1) (l 2) (l 3), 0) by unfold slice_Name.f; rw [if_pos hin, if_pos hp])
        by_cases hnm : nameB base (l 5) (l 4) (l 0) (l 1) (l 2) (l 3) = name
        · have HN := Aside0.mk (parseB_some (name := name) ⟨hp, hnm⟩)
          rw [HN.out]
          rw [hnm] at HF
          clear hnm hp hin
          go_wp2_with (first | (go_at_call 6; refine (slice_Name.calls base (l 5) (l 4) (l 0) (l 1) (l 2) (l 3) name 0 _ HF.out (LaidW.of HLAID (below_alloc HB.out _))).mono ?_; rintro e' w7 ⟨rfl, hb⟩; have B12 := Aside0.mk (blk_below (blk_new wr (.cells #[.string base, .int .i64 (l 5), .int .i64 (l 4), .int .i64 (l 0), .int .i64 (l 1), .int .i64 (l 2), .int .i64 (l 3)] 25)) hb); have HB1 := Aside0.mk (below_step (below_alloc HB.out _) hb); clear HB; have HB := HB1; clear HB1; have BK1 := Aside0.mk (blk_below (blk_alloc B2.out _) hb); clear B2; have B2 := BK1; clear BK1; clear hb; have c0 := (blk_cell B12.out 0).trans (show _ = some (.string base) from rfl); have c1 := (blk_cell B12.out 1).trans (show _ = some (.int .i64 (l 5)) from rfl); have c2 := (blk_cell B12.out 2).trans (show _ = some (.int .i64 (l 4)) from rfl); have c3 := (blk_cell B12.out 3).trans (show _ = some (.int .i64 (l 0)) from rfl); have c4 := (blk_cell B12.out 4).trans (show _ = some (.int .i64 (l 1)) from rfl); have c5 := (blk_cell B12.out 5).trans (show _ = some (.int .i64 (l 2)) from rfl); have c6 := (blk_cell B12.out 6).trans (show _ = some (.int .i64 (l 3)) from rfl); have z0 := blk_cell B2.out 0; have y0 := blk_frozen B2.out 0; have z1 := blk_cell B2.out 1; have y1 := blk_frozen B2.out 1; have z2 := blk_cell B2.out 2; have y2 := blk_frozen B2.out 2; have z3 := blk_cell B2.out 3; have y3 := blk_frozen B2.out 3; have z4 := blk_cell B2.out 4; have y4 := blk_frozen B2.out 4; have z5 := blk_cell B2.out 5; have y5 := blk_frozen B2.out 5; have z6 := blk_cell B2.out 6; have y6 := blk_frozen B2.out 6; simp only [List.getElem?_toArray, List.getElem?_cons_zero, List.getElem?_cons_succ] at z0 z1 z2 z3 z4 z5 z6))
          refine bodyPost_ret (v := .tuple #[.agg #[.string base, .int .i64 (l 5), .int .i64 (l 4), .int .i64 (l 0), .int .i64 (l 1), .int .i64 (l 2), .int .i64 (l 3)], .int .i64 0]) (results_ct Tryz.results8 _ _ b2 25 #[.string base, .int .i64 (l 5), .int .i64 (l 4), .int .i64 (l 0), .int .i64 (l 1), .int .i64 (l 2), .int .i64 (l 3)] (0, 0) _ rfl (store7 B2.out G2.out HB.out _ _ _ _ _ _ _).1 Tryz.underlying25 rfl (by kernel_rfl)) rfl ?_
          unfold ParseSaid
          exact ⟨by first | rfl | rw [HN.out], (store7 B2.out G2.out HB.out _ _ _ _ _ _ _).2⟩
        · have HN := Aside0.mk (parseB_none (name := name) (fun b i k d r s m hg => by
            obtain ⟨e0, e1, e2, e3, e4, e5, e6⟩ := inv_last HI.out hg
            rw [e0, e1, e2, e3, e4, e5, e6] at hg
            exact hnm hg.2))
          rw [HN.out]
          obtain ⟨nm, hn⟩ : ∃ nm, nameB base (l 5) (l 4) (l 0) (l 1) (l 2) (l 3) = nm := ⟨_, rfl⟩
          rw [hn] at HF hnm
          have hq : nm.toList ≠ name.toList := fun h => hnm (ba_ext (by rw [← Lib.toList_data, ← Lib.toList_data, h]))
          have hq1 : (nm.toList == name.toList) = false := beq_eq_false_iff_ne.2 hq
          have hq2 : (nm.toList != name.toList) = true := bne_iff_ne.2 hq
          clear hnm hp hin hn hq
          go_wp2_with (first | (go_at_call 6; refine (slice_Name.calls base (l 5) (l 4) (l 0) (l 1) (l 2) (l 3) nm 0 _ HF.out (LaidW.of HLAID (below_alloc HB.out _))).mono ?_; rintro e' w7 ⟨rfl, hb⟩; have B12 := Aside0.mk (blk_below (blk_new wr (.cells #[.string base, .int .i64 (l 5), .int .i64 (l 4), .int .i64 (l 0), .int .i64 (l 1), .int .i64 (l 2), .int .i64 (l 3)] 25)) hb); have HB1 := Aside0.mk (below_step (below_alloc HB.out _) hb); clear HB; have HB := HB1; clear HB1; have BK1 := Aside0.mk (blk_below (blk_alloc B2.out _) hb); clear B2; have B2 := BK1; clear BK1; clear hb; have c0 := (blk_cell B12.out 0).trans (show _ = some (.string base) from rfl); have c1 := (blk_cell B12.out 1).trans (show _ = some (.int .i64 (l 5)) from rfl); have c2 := (blk_cell B12.out 2).trans (show _ = some (.int .i64 (l 4)) from rfl); have c3 := (blk_cell B12.out 3).trans (show _ = some (.int .i64 (l 0)) from rfl); have c4 := (blk_cell B12.out 4).trans (show _ = some (.int .i64 (l 1)) from rfl); have c5 := (blk_cell B12.out 5).trans (show _ = some (.int .i64 (l 2)) from rfl); have c6 := (blk_cell B12.out 6).trans (show _ = some (.int .i64 (l 3)) from rfl); have z0 := blk_cell B2.out 0; have y0 := blk_frozen B2.out 0; have z1 := blk_cell B2.out 1; have y1 := blk_frozen B2.out 1; have z2 := blk_cell B2.out 2; have y2 := blk_frozen B2.out 2; have z3 := blk_cell B2.out 3; have y3 := blk_frozen B2.out 3; have z4 := blk_cell B2.out 4; have y4 := blk_frozen B2.out 4; have z5 := blk_cell B2.out 5; have y5 := blk_frozen B2.out 5; have z6 := blk_cell B2.out 6; have y6 := blk_frozen B2.out 6; simp only [List.getElem?_toArray, List.getElem?_cons_zero, List.getElem?_cons_succ] at z0 z1 z2 z3 z4 z5 z6))
          refine bodyPost_ret (v := .tuple #[.agg #[.string ⟨#[]⟩, .int .i64 0, .int .i64 0, .int .i64 0, .int .i64 0, .int .i64 0, .int .i64 0], .int .i64 4]) (results_ct Tryz.results8 _ _ b2 25 #[.string ⟨#[]⟩, .int .i64 0, .int .i64 0, .int .i64 0, .int .i64 0, .int .i64 0, .int .i64 0] (0, 0) _ rfl (store7 B2.out G2.out HB.out _ _ _ _ _ _ _).1 Tryz.underlying25 rfl (by kernel_rfl)) rfl ?_
          unfold ParseSaid
          exact ⟨by first | rfl | rw [HN.out], (store7 B2.out G2.out HB.out _ _ _ _ _ _ _).2⟩
      · have HF := Aside0.mk (show slice_Name.f base (l 5) (l 4) (l 0) (l 1) (l 2) (l 3) = some (⟨#[]⟩, 1) by unfold slice_Name.f; rw [if_pos hin, if_neg hp])
        have HN := Aside0.mk (parseB_none (name := name) (fun b i k d r s m hg => by
          obtain ⟨e0, e1, e2, e3, e4, e5, e6⟩ := inv_last HI.out hg
          rw [e0, e1, e2, e3, e4, e5, e6] at hg
          exact hp hg.1))
        rw [HN.out]
        clear hp hin
        go_wp2_with (first | (go_at_call 6; refine (slice_Name.calls base (l 5) (l 4) (l 0) (l 1) (l 2) (l 3) ⟨#[]⟩ 1 _ HF.out (LaidW.of HLAID (below_alloc HB.out _))).mono ?_; rintro e' w7 ⟨rfl, hb⟩; have B12 := Aside0.mk (blk_below (blk_new wr (.cells #[.string base, .int .i64 (l 5), .int .i64 (l 4), .int .i64 (l 0), .int .i64 (l 1), .int .i64 (l 2), .int .i64 (l 3)] 25)) hb); have HB1 := Aside0.mk (below_step (below_alloc HB.out _) hb); clear HB; have HB := HB1; clear HB1; have BK1 := Aside0.mk (blk_below (blk_alloc B2.out _) hb); clear B2; have B2 := BK1; clear BK1; clear hb; have c0 := (blk_cell B12.out 0).trans (show _ = some (.string base) from rfl); have c1 := (blk_cell B12.out 1).trans (show _ = some (.int .i64 (l 5)) from rfl); have c2 := (blk_cell B12.out 2).trans (show _ = some (.int .i64 (l 4)) from rfl); have c3 := (blk_cell B12.out 3).trans (show _ = some (.int .i64 (l 0)) from rfl); have c4 := (blk_cell B12.out 4).trans (show _ = some (.int .i64 (l 1)) from rfl); have c5 := (blk_cell B12.out 5).trans (show _ = some (.int .i64 (l 2)) from rfl); have c6 := (blk_cell B12.out 6).trans (show _ = some (.int .i64 (l 3)) from rfl); have z0 := blk_cell B2.out 0; have y0 := blk_frozen B2.out 0; have z1 := blk_cell B2.out 1; have y1 := blk_frozen B2.out 1; have z2 := blk_cell B2.out 2; have y2 := blk_frozen B2.out 2; have z3 := blk_cell B2.out 3; have y3 := blk_frozen B2.out 3; have z4 := blk_cell B2.out 4; have y4 := blk_frozen B2.out 4; have z5 := blk_cell B2.out 5; have y5 := blk_frozen B2.out 5; have z6 := blk_cell B2.out 6; have y6 := blk_frozen B2.out 6; simp only [List.getElem?_toArray, List.getElem?_cons_zero, List.getElem?_cons_succ] at z0 z1 z2 z3 z4 z5 z6))
        refine bodyPost_ret (v := .tuple #[.agg #[.string ⟨#[]⟩, .int .i64 0, .int .i64 0, .int .i64 0, .int .i64 0, .int .i64 0, .int .i64 0], .int .i64 4]) (results_ct Tryz.results8 _ _ b2 25 #[.string ⟨#[]⟩, .int .i64 0, .int .i64 0, .int .i64 0, .int .i64 0, .int .i64 0, .int .i64 0] (0, 0) _ rfl (store7 B2.out G2.out HB.out _ _ _ _ _ _ _).1 Tryz.underlying25 rfl (by kernel_rfl)) rfl ?_
        unfold ParseSaid
        exact ⟨by first | rfl | rw [HN.out], (store7 B2.out G2.out HB.out _ _ _ _ _ _ _).2⟩

theorem slice_Parse.calls (a0 : ByteArray) (r1 : ByteArray) (r2 r3 r4 r5 r6 r7 r8 : Int) (w : World) (h : slice_Parse.f a0 = some (r1, r2, r3, r4, r5, r6, r7, r8)) (hL : LaidW w := by exact LaidW.of ‹Aside0 (LaidW _)› (by repeat (first | (with_reducible first | exact (‹Aside0 (Below _ _ _)›).out | apply below_alloc | apply pw_below_drewN | apply below_drew1 | refine below_set ?_ (Aside0.out (by assumption))) | exact (‹Aside0 (Below _ _ _)›).out))) :
    Calls Tryz.prog 8 #[.string a0] w fun e w' => e = .returned (.tuple #[.agg #[.string r1, .int .i64 r2, .int .i64 r3, .int .i64 r4, .int .i64 r5, .int .i64 r6, .int .i64 r7], .int .i64 r8]) ∧ Below w.heap.size w w' := by
  unfold slice_Parse.f at h
  split at h
  · rename_i hs
    have hp := parse_walk a0 w hs hL
    rw [Option.some.inj h] at hp
    exact hp
  · cases h
end Go.Proofs.YtnnkenbcdepafaaGreatDoor.H
