/- The walk of the law's own spoil: it writes over volumes of the call's own, and changes nothing else. The walk of the law SliceTells: where every call answers as its contract says, it answers true. The law SliceTells answers true, whatever comes in: its walk, and what its calls answer. -/
import Derived.Test.YtnnkenbcdepafaaDoorHParse
import Derived.Test.YtnnkenbcdepafaaDoorHJoin
import Derived.Test.YtnnkenbcdepafaaDoorA
import Derived.Test.YtnnkenbcdepafaaDoorHRefs
import Derived.Test.YtnnkenbcdepafaaDoorHW
namespace Go.Proofs.YtnnkenbcdepafaaDoor.H
open Go.RowKit Go.Proofs.YtnnkenbcdepafaaDoorW.PrintWords Go.Proofs.YtnnkenbcdepafaaDoorW.PrintLast Go.Proofs.YtnnkenbcdepafaaDoorW.PrintMore Go.Proofs.YtnnkenbcdepafaaDoor.B
set_option linter.unusedVariables false
set_option linter.unusedSimpArgs false

/-- Volumes of the call's own: their outer row hs in block b, each inner row in a block of its own; all behind B. -/
structure Vols (W : World) (B b : Nat) (hs : List Value) : Prop where
  le : B ≤ b
  outer : ∃ cur, W.heap[b]? = some (.cells cur 39 (0, 0)) ∧ cur.toList.take hs.length = hs
  inner : ∀ v ∈ hs, v = .slice none 0 0 ∨ ∃ g n cap cur, v = .slice (some ⟨g, 0, none⟩) n cap ∧ B ≤ g ∧ W.heap[g]? = some (.cells cur 9 (0, 0)) ∧ n ≤ cur.size ∧ n ≤ cap ∧ n ≤ 9223372036854775807

theorem Vols.of_S {W : World} {base : Nat} {ok : Nat → Prop} {v : Value} {l : List (List ByteArray)} (h : Kd.S (Kd.slice 9 Kd.string) 39 W base ok v l) :
    v = .slice none 0 0 ∧ l = [] ∨ ∃ b cap hs, v = .slice (some ⟨b, 0, none⟩) l.length cap ∧ hs.length = l.length ∧ Vols W base b hs := by
  obtain ⟨_, inner, ⟨hlen, ho⟩, hr⟩ := Kd.S_R h
  rcases ho with ⟨rfl, h0⟩ | ⟨g, cap, cur, rfl, hb, hh, _, _, _, ht⟩
  · exact .inl ⟨rfl, List.eq_nil_of_length_eq_zero h0⟩
  · have hsz : (Kd.slice 9 Kd.string).sz = 1 := rfl
    rw [hsz, Nat.mul_one] at hlen
    refine .inr ⟨g, cap, inner, rfl, hlen, ⟨hb, ⟨cur, hh, by rw [hlen]; rw [hsz, Nat.mul_one] at ht; exact ht⟩, fun u hu => ?_⟩⟩
    obtain ⟨j, hj⟩ := List.getElem?_of_mem hu
    have hjl : j < l.length := by
      have := (List.getElem?_eq_some_iff.1 hj).1
      omega
    obtain ⟨v, hv, _, inner2, ⟨hl2, ho2⟩, _⟩ := hr.2 j _ (List.getElem?_eq_getElem hjl)
    have e : (inner.drop (j * 1)).take 1 = [u] := by
      rw [Nat.mul_one, List.drop_eq_getElem_cons (show j < inner.length by omega)]
      rw [List.getElem?_eq_getElem (by omega)] at hj
      rw [Option.some.inj hj]
      rfl
    have hvu : v = u := by
      have : [u] = [v] := e.symm.trans hv
      exact (List.cons.inj this).1.symm
    subst hvu
    rcases ho2 with ⟨rfl, _⟩ | ⟨g2, cap2, cur2, rfl, hb2, hh2, hc2, hm2, hcs2, _⟩
    · exact .inl rfl
    · refine .inr ⟨g2, _, cap2, cur2, rfl, hb2, hh2, ?_, hc2, Nat.le_trans hc2 (by simpa [maxLen] using hm2)⟩
      have : (Kd.string).sz = 1 := rfl
      rw [this, Nat.mul_one] at hcs2
      omega

theorem Vols.set {W : World} {B b g : Nat} {hs : List Value} {cur : Array Value} (h : Vols W B b hs) (hg : W.heap[g]? = some (.cells cur 9 (0, 0))) (j : Nat) (x : Value) : Vols (W.setCell ⟨g, j, none⟩ x) B b hs := by
  obtain ⟨h1, ⟨c, h2, h3⟩, h4⟩ := h
  have hne : b ≠ g := by
    intro e
    subst e
    rw [h2] at hg
    injection hg with hg
    injection hg with _ ht _
    exact absurd ht (by decide)
  refine ⟨h1, ⟨c, (Below.heap_setCell W ⟨g, j, none⟩ x b hne).trans h2, h3⟩, fun v hv => ?_⟩
  rcases h4 v hv with h5 | ⟨g', n, cap, cur', h5, h6, h7, h8, h9, h10⟩
  · exact .inl h5
  · refine .inr ?_
    by_cases e : g' = g
    · subst e
      have := set_at h7 j x
      exact ⟨g', n, cap, _, h5, h6, this, by simpa using h8, h9, h10⟩
    · exact ⟨g', n, cap, cur', h5, h6, (Below.heap_setCell W ⟨g, j, none⟩ x g' e).trans h7, h8, h9, h10⟩

theorem Vols.lower {W : World} {B B' b : Nat} {hs : List Value} (h : Vols W B b hs) (hB : B' ≤ B) : Vols W B' b hs := by
  refine ⟨Nat.le_trans hB h.le, h.outer, fun v hv => ?_⟩
  rcases h.inner v hv with h5 | ⟨g, n, cap, cur, h5, h6, h7⟩
  · exact .inl h5
  · exact .inr ⟨g, n, cap, cur, h5, Nat.le_trans hB h6, h7⟩
theorem Vols.below {W W' : World} {B b : Nat} {hs : List Value} (h : Vols W B b hs) (hb : Below W.heap.size W W') : Vols W' B b hs := by
  obtain ⟨h1, ⟨c, h2, h3⟩, h4⟩ := h
  refine ⟨h1, ⟨c, blk_below h2 hb, h3⟩, fun v hv => ?_⟩
  rcases h4 v hv with h5 | ⟨g, n, cap, cur, h5, h6, h7, h8⟩
  · exact .inl h5
  · exact .inr ⟨g, n, cap, cur, h5, h6, blk_below h7 hb, h8⟩
theorem Vols.cell {W : World} {B b : Nat} {hs : List Value} (h : Vols W B b hs) (i : Nat) (hi : i < hs.length) : W.cell? ⟨b, i, none⟩ = some hs[i] := by
  obtain ⟨_, ⟨cur, h2, h3⟩, _⟩ := h
  have : cur[i]? = some hs[i] := by
    have h4 : (cur.toList.take hs.length)[i]? = some hs[i] := by rw [h3]; exact List.getElem?_eq_getElem hi
    rw [List.getElem?_take_of_lt hi, Array.getElem?_toList] at h4
    exact h4
  unfold World.cell?
  simp [h2, this]

set_option maxHeartbeats 4000000 in
set_option maxRecDepth 100000 in
theorem spoil_calls (B b cap : Nat) (hs : List Value) (w0 w : World) (h : Vols w B b hs) (hcap : hs.length ≤ cap) (hn : hs.length ≤ 8796093022208) (hb : Below B w0 w) :
    Calls Tryd.prog 14 #[.slice (some ⟨b, 0, none⟩) hs.length cap] w fun e w' => (∃ v, e = .returned v) ∧ Below B w0 w' := by
  have VO := Aside0.mk h
  have HB := Aside0.mk hb
  clear h hb
  go_enter Tryd.func14, Tryd.ntmps14
  go_wp2
  go_loopg [2] hs.length (fun gk v2 w' => ∃ (i : Nat), v2 = .int .i64 (i : Int) ∧ i ≤ hs.length ∧ Aside0 (hs.length - i ≤ gk) ∧ Aside0 (Vols w' B b hs) ∧ Aside0 (Below B w0 w'))
  case atStart => exact ⟨0, by rfl, by omega, ⟨by omega⟩, VO, HB⟩
  case round =>
    clear VO HB
    obtain ⟨i, rfl, hi, HG, VO, HB⟩ := hrel
    by_cases hlt : i < hs.length
    · have hcell := VO.out.cell i hlt
      have hm : hs[i] ∈ hs := List.getElem_mem hlt
      rcases VO.out.inner _ hm with h5 | ⟨g, n, cp, cur, h5, h6, h7, h8, h9, hnb⟩
      · rw [h5] at hcell
        go_wp2
        go_loopg [3] 0 (fun gk v3 w' => v3 = .int .i64 0 ∧ Aside0 (Vols w' B b hs) ∧ Aside0 (Below B w0 w') ∧ Aside0 (w'.cell? ⟨b, i, none⟩ = some (.slice none 0 0)))
        case atStart => exact ⟨rfl, VO, HB, ⟨hcell⟩⟩
        case round =>
          clear VO HB hcell
          obtain ⟨rfl, VO, HB, HC⟩ := hrel
          have hcell := HC.out
          go_wp2
          go_roundg (hs.length - (i + 1))
          case measure => have := HG.out; omega
          case rel => exact ⟨i + 1, by go_num, by omega, ⟨by omega⟩, VO, HB⟩
      · rw [h5] at hcell
        have H7 : Aside0 (∃ cur, wr.heap[g]? = some (.cells cur 9 (0, 0)) ∧ n ≤ cur.size) := ⟨⟨cur, h7, h8⟩⟩
        clear h7 h8
        go_wp2
        go_loopg [3] n (fun gk v3 w' => ∃ (j : Nat), v3 = .int .i64 (j : Int) ∧ j ≤ n ∧ Aside0 (n - j ≤ gk) ∧ Aside0 (Vols w' B b hs) ∧ Aside0 (Below B w0 w') ∧ Aside0 (w'.cell? ⟨b, i, none⟩ = some (.slice (some ⟨g, 0, none⟩) n cp)) ∧ Aside0 (∃ cur, w'.heap[g]? = some (.cells cur 9 (0, 0)) ∧ n ≤ cur.size))
        case atStart => exact ⟨0, by rfl, by omega, ⟨by omega⟩, VO, HB, ⟨hcell⟩, H7⟩
        case round =>
          clear VO HB hcell H7
          obtain ⟨j, rfl, hj, HG2, VO, HB, HC, H7⟩ := hrel
          have hcell := HC.out
          by_cases hjl : j < n
          · obtain ⟨cur, hh, hcs⟩ := H7.out
            have hcj : wr.cell? ⟨g, j, none⟩ = some cur[j] := by
              unfold World.cell?
              simp [hh, Array.getElem?_eq_getElem (show j < cur.size by omega)]
            have hfj := blk_frozen hh j
            go_wp2
            have hv2 := VO.out.set hh j (Value.string ⟨#[115, 112, 111, 105, 108, 116]⟩)
            have hc2 := hv2.cell i hlt
            rw [h5] at hc2
            have ha2 := set_at hh j (Value.string ⟨#[115, 112, 111, 105, 108, 116]⟩)
            have hb2 := HB.out.setCell (p := ⟨g, j, none⟩) h6 (Value.string ⟨#[115, 112, 111, 105, 108, 116]⟩)
            go_roundg (n - (j + 1))
            case measure => have := HG2.out; omega
            case rel => exact ⟨j + 1, by go_num, by omega, ⟨by omega⟩, ⟨hv2⟩, ⟨hb2⟩, ⟨hc2⟩, ⟨⟨_, ha2, by simpa using hcs⟩⟩⟩
          · have : j = n := by omega
            subst this
            go_wp2
            go_roundg (hs.length - (i + 1))
            case measure => have := HG.out; omega
            case rel => exact ⟨i + 1, by go_num, by omega, ⟨by omega⟩, VO, HB⟩
    · have : i = hs.length := by omega
      subst this
      go_wp2
      go_end0
      exact ⟨⟨_, rfl⟩, HB.out⟩

set_option maxHeartbeats 4000000 in
set_option maxRecDepth 100000 in
theorem spoil_nil (w : World) : Calls Tryd.prog 14 #[.slice none 0 0] w fun e w' => (∃ v, e = .returned v) ∧ w' = w := by
  go_enter Tryd.func14, Tryd.ntmps14
  go_wp2
  go_loopg [2] 0 (fun gk v2 w' => v2 = .int .i64 0 ∧ w' = w)
  case atStart => exact ⟨rfl, rfl⟩
  case round =>
    obtain ⟨rfl, rfl⟩ := hrel
    go_wp2
    go_end0
    exact ⟨⟨_, rfl⟩, rfl⟩
theorem spoil_any {w3 w5 : World} {B : Nat} {ok : Nat → Prop} {A1 : Option Addr} {c1 : Nat} {l : List (List ByteArray)} (ho : Kd.S (Kd.slice 9 Kd.string) 39 w3 B ok (.slice A1 l.length c1) l) (hb : Below w3.heap.size w3 w5) (hB : B ≤ w5.heap.size) (hl : l.length ≤ 1000) (hc : l.length ≤ c1) :
    Calls Tryd.prog 14 #[.slice A1 l.length c1] w5 fun e w' => (∃ v, e = .returned v) ∧ Below B w5 w' := by
  have refl : Below B w5 w5 := (Below.refl w5.heap.size w5).mono hB
  rcases Vols.of_S ho with ⟨hv, rfl⟩ | ⟨b, cap, hs, hv, hlen, hV⟩
  · injection hv with h1 h2 h3
    subst h1 h3
    refine (spoil_nil w5).mono ?_
    rintro e w' ⟨he, rfl⟩
    exact ⟨he, refl⟩
  · injection hv with h1 h2 h3
    subst h1 h3
    have := spoil_calls B b c1 hs w5 w5 (hV.below hb) (by omega) (by omega) refl
    rw [hlen] at this
    exact this
end Go.Proofs.YtnnkenbcdepafaaDoor.H

namespace Go.Proofs.YtnnkenbcdepafaaDoor.H
open Go.RowKit Go.Proofs.YtnnkenbcdepafaaDoorW.PrintWords Go.Proofs.YtnnkenbcdepafaaDoorW.PrintLast Go.Proofs.YtnnkenbcdepafaaDoorW.PrintMore Go.Proofs.YtnnkenbcdepafaaDoor.B
set_option linter.unusedVariables false
set_option linter.unusedSimpArgs false

theorem tells_held {w W : World} {gb : Nat} {d r s m : Int} (BK : Aside0 (W.heap[gb]? = some (.cells #[.int .i64 d, .int .i64 r, .int .i64 s, .int .i64 m] 23 (0, 0)))) (HB : Aside0 (Below w.heap.size w W)) :
    (W.cell? ⟨gb, 0, none⟩ = some (.int .i64 d) ∧ W.cell? ⟨gb, 1, none⟩ = some (.int .i64 r) ∧ W.cell? ⟨gb, 2, none⟩ = some (.int .i64 s) ∧ W.cell? ⟨gb, 3, none⟩ = some (.int .i64 m) ∧ Aside0 (W.heap[gb]? = some (.cells #[.int .i64 d, .int .i64 r, .int .i64 s, .int .i64 m] 23 (0, 0))) ∧ Aside0 (Below w.heap.size w W)) := by
  have y0 := blk_cell BK.out 0
  have y1 := blk_cell BK.out 1
  have y2 := blk_cell BK.out 2
  have y3 := blk_cell BK.out 3
  simp only [List.getElem?_toArray, List.getElem?_cons_zero, List.getElem?_cons_succ] at y0 y1 y2 y3
  exact ⟨y0, y1, y2, y3, BK, HB⟩
theorem tells_keep {w W W' : World} {gb : Nat} {d r s m : Int} (h : (W.cell? ⟨gb, 0, none⟩ = some (.int .i64 d) ∧ W.cell? ⟨gb, 1, none⟩ = some (.int .i64 r) ∧ W.cell? ⟨gb, 2, none⟩ = some (.int .i64 s) ∧ W.cell? ⟨gb, 3, none⟩ = some (.int .i64 m) ∧ Aside0 (W.heap[gb]? = some (.cells #[.int .i64 d, .int .i64 r, .int .i64 s, .int .i64 m] 23 (0, 0))) ∧ Aside0 (Below w.heap.size w W))) (hb : Below W.heap.size W W') :
    (W'.cell? ⟨gb, 0, none⟩ = some (.int .i64 d) ∧ W'.cell? ⟨gb, 1, none⟩ = some (.int .i64 r) ∧ W'.cell? ⟨gb, 2, none⟩ = some (.int .i64 s) ∧ W'.cell? ⟨gb, 3, none⟩ = some (.int .i64 m) ∧ Aside0 (W'.heap[gb]? = some (.cells #[.int .i64 d, .int .i64 r, .int .i64 s, .int .i64 m] 23 (0, 0))) ∧ Aside0 (Below w.heap.size w W')) :=
  tells_held ⟨blk_below h.2.2.2.2.1.out hb⟩ ⟨below_step h.2.2.2.2.2.out hb⟩
theorem tells_drew {w W : World} {gb : Nat} {d r s m : Int} (h : (W.cell? ⟨gb, 0, none⟩ = some (.int .i64 d) ∧ W.cell? ⟨gb, 1, none⟩ = some (.int .i64 r) ∧ W.cell? ⟨gb, 2, none⟩ = some (.int .i64 s) ∧ W.cell? ⟨gb, 3, none⟩ = some (.int .i64 m) ∧ Aside0 (W.heap[gb]? = some (.cells #[.int .i64 d, .int .i64 r, .int .i64 s, .int .i64 m] 23 (0, 0))) ∧ Aside0 (Below w.heap.size w W))) :
    (W.drew.cell? ⟨gb, 0, none⟩ = some (.int .i64 d) ∧ W.drew.cell? ⟨gb, 1, none⟩ = some (.int .i64 r) ∧ W.drew.cell? ⟨gb, 2, none⟩ = some (.int .i64 s) ∧ W.drew.cell? ⟨gb, 3, none⟩ = some (.int .i64 m) ∧ Aside0 (W.drew.heap[gb]? = some (.cells #[.int .i64 d, .int .i64 r, .int .i64 s, .int .i64 m] 23 (0, 0))) ∧ Aside0 (Below w.heap.size w W.drew)) :=
  tells_held ⟨blk_drew h.2.2.2.2.1.out⟩ ⟨below_drew1 h.2.2.2.2.2.out⟩
theorem tells_laid {w W : World} {gb : Nat} {d r s m : Int} (HL : Aside0 (LaidW w)) (h : (W.cell? ⟨gb, 0, none⟩ = some (.int .i64 d) ∧ W.cell? ⟨gb, 1, none⟩ = some (.int .i64 r) ∧ W.cell? ⟨gb, 2, none⟩ = some (.int .i64 s) ∧ W.cell? ⟨gb, 3, none⟩ = some (.int .i64 m) ∧ Aside0 (W.heap[gb]? = some (.cells #[.int .i64 d, .int .i64 r, .int .i64 s, .int .i64 m] 23 (0, 0))) ∧ Aside0 (Below w.heap.size w W))) : LaidW W :=
  LaidW.of HL h.2.2.2.2.2.out

set_option maxHeartbeats 4000000 in
set_option maxRecDepth 100000 in
theorem tells_yes (k : Nat) (a : ByteArray) (n d r s m : Int) (A0 : Option Addr) (c0 : Nat) (vs : List (List ByteArray)) (w : World) (hr0 : Kd.C (Kd.slice 9 Kd.string) w A0 vs.length vs) (hc0 : vs.length ≤ c0) (hL : LaidW w)
    (l : List (List ByteArray)) (e c ce je : Int) (u : ByteArray) (sh : Bool) (hsz : a.size ≤ 3000) (hll : l.length ≤ 1000)
    (hlong : hamperlaw26_long.f k vs = some false) (hcut : slice_Cut.f a d r s m = some (l, e)) (hrcut : hamperref26_Cut.f k a d r s m = some (l, e)) (hsame : hamperref26_Same.f k l l = some true)
    (hcount : slice_Count.f k n d r s m = some (c, ce)) (hrcount : hamperref26_Count.f k n d r s m = some (c, ce)) (hjoin : slice_Join.f vs d r s m = some (u, je)) (hrjoin : hamperref26_Join.f k vs d r s m = some (u, je))
    (hshape : slice_Shape.f d r s m = some sh) (hrshape : hamperref26_Shape.f d r s m = some sh) (haw : A.hamperlaw26_awake.f = some true) :
    Calls Tryd.prog 3 #[.string a, .int .i64 n, .agg #[.int .i64 d, .int .i64 r, .int .i64 s, .int .i64 m], .slice A0 vs.length c0] w fun e' w' => e' = .returned (.bool true) ∧ Below w.heap.size w w' := by
  have HLAID := Aside0.mk hL
  have HR0 := Aside0.mk hr0
  have F1 := Aside0.mk hlong
  have F2 := Aside0.mk hcut
  have F3 := Aside0.mk hrcut
  have F4 := Aside0.mk hsame
  have F5 := Aside0.mk hcount
  have F6 := Aside0.mk hrcount
  have F7 := Aside0.mk hjoin
  have F8 := Aside0.mk hrjoin
  have F9 := Aside0.mk hshape
  have F10 := Aside0.mk hrshape
  have F11 := Aside0.mk haw
  have HB := Aside0.mk (Below.refl w.heap.size w)
  clear hL hr0 hlong hcut hrcut hsame hcount hrcount hjoin hrjoin hshape hrshape haw
  have hu23 := Tryd.underlying23
  go_enter Tryd.func3, Tryd.ntmps3
  go_wp2_with (first | ((with_reducible refine gate_dst (N := 6) rfl ?_); refine box_event ?hg (N := 6) ?hd (cs := #[.int .i64 d, .int .i64 r, .int .i64 s, .int .i64 m]) (t := 23) ?hr ?_; (case hd => rfl); (case hg => rfl); (case hr => first | (go_simp; done) | (go_simp; rfl)); intro gb hg w1 hbox hb; have HB1 := Aside0.mk (below_step HB.out hb); have GB := Aside0.mk (show w.heap.size ≤ gb by rw [hg]; exact below_size HB.out); clear HB; have HB := HB1; clear HB1; have BK := Aside0.mk hbox; clear hb hbox hg))
  refine (hamperlaw26_long.calls k A0 c0 vs false _ (Kd.C_below HR0.out HB.out) hc0 F1.out).mono ?_
  rintro e' w2 ⟨rfl, hb⟩
  have BK1 := Aside0.mk (blk_below BK.out hb.below)
  have HB1 := Aside0.mk (below_step HB.out hb.below)
  clear hb BK HB
  go_wp2_with fail
  go_loopg [9] 2 (fun gk v9 w' => ∃ (i : Nat), v9 = .int .i64 (i : Int) ∧ i ≤ 2 ∧ Aside0 (2 - i ≤ gk) ∧ Aside0 (w'.heap[gb]? = some (.cells #[.int .i64 d, .int .i64 r, .int .i64 s, .int .i64 m] 23 (0, 0))) ∧ Aside0 (Below w.heap.size w w'))
  case atStart => exact ⟨0, by rfl, by omega, ⟨by omega⟩, BK1, HB1⟩
  case round =>
    clear BK1 HB1
    obtain ⟨i, rfl, hi, HG, BK, HB⟩ := hrel
    have y0 := blk_cell BK.out 0
    have y1 := blk_cell BK.out 1
    have y2 := blk_cell BK.out 2
    have y3 := blk_cell BK.out 3
    simp only [List.getElem?_toArray, List.getElem?_cons_zero, List.getElem?_cons_succ] at y0 y1 y2 y3
    by_cases hlt : i < 2
    · go_wp2_with fail
      refine (slice_Cut.calls a d r s m l e _ F2.out).mono ?_
      rintro e' w3 ⟨v1, rfl, ho, hb⟩
      have VO := Aside0.mk ho
      obtain ⟨A1, c1, rfl, hl1, hC1⟩ := Kd.S_reads ho
      have HC1 := Aside0.mk hC1
      have WS := Aside0.mk (below_size HB.out)
      have GBL := Aside0.mk (blk_lt BK.out)
      have HBW := Aside0.mk hb
      have BK1 := Aside0.mk (blk_below BK.out hb)
      have HB1 := Aside0.mk (below_step HB.out hb)
      clear ho hC1 hb BK HB y0 y1 y2 y3
      have y0 := blk_cell BK1.out 0
      have y1 := blk_cell BK1.out 1
      have y2 := blk_cell BK1.out 2
      have y3 := blk_cell BK1.out 3
      simp only [List.getElem?_toArray, List.getElem?_cons_zero, List.getElem?_cons_succ] at y0 y1 y2 y3
      go_wp2_with fail
      refine (hamperref26_Cut.calls k a d r s m l e _ F3.out).mono ?_
      rintro e' w4 ⟨v2, rfl, ho, hb⟩
      obtain ⟨A2, c2, rfl, hl2, hC2⟩ := Kd.S_reads ho
      have HC2 := Aside0.mk hC2
      have HC3 := Aside0.mk (Kd.C_below HC1.out hb)
      have BK2 := Aside0.mk (blk_below BK1.out hb)
      have HB2 := Aside0.mk (below_step HB1.out hb)
      have HX := Aside0.mk hb
      clear ho hC2 hb BK1 HB1 HC1 y0 y1 y2 y3
      have hne : (e != e) = false := by simp
      go_wp2_with fail
      refine (hamperref26_Same.calls k A1 c1 l A2 c2 l true _ HC3.out hl1 HC2.out hl2 F4.out).mono ?_
      rintro e' w5 ⟨rfl, hb⟩
      have BK3 := Aside0.mk (blk_below BK2.out hb.below)
      have HB3 := Aside0.mk (below_step HB2.out hb.below)
      have HX2 := Aside0.mk (below_step HX.out hb.below)
      have HBV := Aside0.mk (below_step (below_step HBW.out HX.out) hb.below)
      clear HBW
      have HBW := HBV
      clear HBV
      clear hb BK2 HB2 HX HC3 HC2
      go_wp2_with fail
      refine (spoil_any VO.out HX2.out (below_size HBW.out) hll hl1).mono ?_
      rintro e' w6 ⟨⟨v, rfl⟩, hb⟩
      have BK4 := Aside0.mk (blk_stay BK3.out hb GBL.out)
      have HB4 := Aside0.mk (bld_below HB3.out hb WS.out)
      clear hb BK3 HB3
      go_wp2_with fail
      go_roundg (2 - (i + 1))
      case measure => have := HG.out; omega
      case rel => exact ⟨i + 1, by go_num, by omega, ⟨by omega⟩, BK4, HB4⟩
    · have : i = 2 := by omega
      subst this
      go_wp2_with fail
      refine (slice_Count.calls k n d r s m c ce _ F5.out).mono ?_
      rintro e' w7 ⟨rfl, hb⟩
      have BK1 := Aside0.mk (blk_below BK.out hb)
      have HB1 := Aside0.mk (below_step HB.out hb)
      clear hb BK HB y0 y1 y2 y3
      have BK := BK1
      have HB := HB1
      clear BK1 HB1
      have y0 := blk_cell BK.out 0
      have y1 := blk_cell BK.out 1
      have y2 := blk_cell BK.out 2
      have y3 := blk_cell BK.out 3
      simp only [List.getElem?_toArray, List.getElem?_cons_zero, List.getElem?_cons_succ] at y0 y1 y2 y3
      go_wp2_with fail
      refine (hamperref26_Count.calls k n d r s m c ce _ F6.out).mono ?_
      rintro e' w8 ⟨rfl, hb⟩
      have BK1 := Aside0.mk (blk_below BK.out hb)
      have HB1 := Aside0.mk (below_step HB.out hb)
      clear hb BK HB y0 y1 y2 y3
      have BK := BK1
      have HB := HB1
      clear BK1 HB1
      have y0 := blk_cell BK.out 0
      have y1 := blk_cell BK.out 1
      have y2 := blk_cell BK.out 2
      have y3 := blk_cell BK.out 3
      simp only [List.getElem?_toArray, List.getElem?_cons_zero, List.getElem?_cons_succ] at y0 y1 y2 y3
      go_wp2_with fail
      refine (slice_Join.calls A0 c0 vs d r s m u je _ (Kd.C_below HR0.out HB.out) hc0 F7.out).mono ?_
      rintro e' w9 ⟨rfl, hb⟩
      have BK1 := Aside0.mk (blk_below BK.out hb)
      have HB1 := Aside0.mk (below_step HB.out hb)
      clear hb BK HB y0 y1 y2 y3
      have BK := BK1
      have HB := HB1
      clear BK1 HB1
      have y0 := blk_cell BK.out 0
      have y1 := blk_cell BK.out 1
      have y2 := blk_cell BK.out 2
      have y3 := blk_cell BK.out 3
      simp only [List.getElem?_toArray, List.getElem?_cons_zero, List.getElem?_cons_succ] at y0 y1 y2 y3
      go_wp2_with fail
      refine (hamperref26_Join.calls k A0 c0 vs d r s m u je _ (Kd.C_below HR0.out HB.out) hc0 F8.out).mono ?_
      rintro e' w10 ⟨rfl, hb⟩
      have BK1 := Aside0.mk (blk_below BK.out hb)
      have HB1 := Aside0.mk (below_step HB.out hb)
      clear hb BK HB y0 y1 y2 y3
      have BK := BK1
      have HB := HB1
      clear BK1 HB1
      have y0 := blk_cell BK.out 0
      have y1 := blk_cell BK.out 1
      have y2 := blk_cell BK.out 2
      have y3 := blk_cell BK.out 3
      simp only [List.getElem?_toArray, List.getElem?_cons_zero, List.getElem?_cons_succ] at y0 y1 y2 y3
      have e1 : (c == c) = true := by simp
      have e2 : (ce == ce) = true := by simp
      have e3 : (je == je) = true := by simp
      have e4 : (u.toList == u.toList) = true := by simp
      have e5 : (sh == sh) = true := by simp
      go_upto_region 15 with fail
      have HY := tells_held BK HB
      clear BK HB
      go_region_held3 (fun wx => wx.cell? ⟨gb, 0, none⟩ = some (.int .i64 d) ∧ wx.cell? ⟨gb, 1, none⟩ = some (.int .i64 r) ∧ wx.cell? ⟨gb, 2, none⟩ = some (.int .i64 s) ∧ wx.cell? ⟨gb, 3, none⟩ = some (.int .i64 m) ∧ Aside0 (wx.heap[gb]? = some (.cells #[.int .i64 d, .int .i64 r, .int .i64 s, .int .i64 m] 23 (0, 0))) ∧ Aside0 (Below w.heap.size w wx))
        (first | exact tells_drew HY | exact tells_keep (by assumption) (by assumption))
        (first | (go_at_call 19; (with_reducible refine (slice_Shape.calls d r s m sh _ F9.out).mono ?_); rintro e' wa ⟨rfl, hb⟩) | (go_at_call 20; (with_reducible refine (hamperref26_Shape.calls d r s m sh _ F10.out).mono ?_); rintro e' wb ⟨rfl, hb⟩) | (go_at_call 10; (with_reducible refine (A.hamperlaw26_awake.calls true _ F11.out (tells_laid HLAID (by assumption))).mono ?_); rintro e' wc ⟨rfl, hb⟩))
      all_goals
        go_wp2_with fail
        go_ret
        exact ⟨rfl, (show Aside0 (Below w.heap.size w _) from (by assumption : _ ∧ _ ∧ _ ∧ _ ∧ _ ∧ _).2.2.2.2.2).out⟩
set_option maxHeartbeats 4000000 in
set_option maxRecDepth 100000 in
theorem tells_long (k : Nat) (a : ByteArray) (n d r s m : Int) (A0 : Option Addr) (c0 : Nat) (vs : List (List ByteArray)) (w : World) (hr0 : Kd.C (Kd.slice 9 Kd.string) w A0 vs.length vs) (hc0 : vs.length ≤ c0) (hL : LaidW w)
    (hsz : a.size ≤ 3000) (hlong : hamperlaw26_long.f k vs = some true) (haw : A.hamperlaw26_awake.f = some true) :
    Calls Tryd.prog 3 #[.string a, .int .i64 n, .agg #[.int .i64 d, .int .i64 r, .int .i64 s, .int .i64 m], .slice A0 vs.length c0] w fun e' w' => e' = .returned (.bool true) ∧ Below w.heap.size w w' := by
  have HLAID := Aside0.mk hL
  have HR0 := Aside0.mk hr0
  have F1 := Aside0.mk hlong
  have F11 := Aside0.mk haw
  have HB := Aside0.mk (Below.refl w.heap.size w)
  clear hL hr0 hlong haw
  have hu23 := Tryd.underlying23
  go_enter Tryd.func3, Tryd.ntmps3
  go_wp2_with (first | ((with_reducible refine gate_dst (N := 6) rfl ?_); refine box_event ?hg (N := 6) ?hd (cs := #[.int .i64 d, .int .i64 r, .int .i64 s, .int .i64 m]) (t := 23) ?hr ?_; (case hd => rfl); (case hg => rfl); (case hr => first | (go_simp; done) | (go_simp; rfl)); intro gb hg w1 hbox hb; have HB1 := Aside0.mk (below_step HB.out hb); have GB := Aside0.mk (show w.heap.size ≤ gb by rw [hg]; exact below_size HB.out); clear HB; have HB := HB1; clear HB1; have BK := Aside0.mk hbox; clear hb hbox hg))
  refine (hamperlaw26_long.calls k A0 c0 vs true _ (Kd.C_below HR0.out HB.out) hc0 F1.out).mono ?_
  rintro e' w2 ⟨rfl, hb⟩
  have HB1 := Aside0.mk (below_step HB.out hb.below)
  clear hb BK HB
  go_wp2_with fail
  refine (A.hamperlaw26_awake.calls true _ F11.out (LaidW.of HLAID HB1.out)).mono ?_
  rintro e' w3 ⟨rfl, hb⟩
  have HB := Aside0.mk (below_step HB1.out hb)
  clear hb HB1
  go_wp2_with fail
  go_ret
  exact ⟨rfl, HB.out⟩

set_option maxHeartbeats 4000000 in
set_option maxRecDepth 100000 in
theorem tells_size (a : ByteArray) (n d r s m : Int) (A0 : Option Addr) (c0 : Nat) (vs : List (List ByteArray)) (w : World) (hL : LaidW w)
    (hsz : 3000 < a.size) (haw : A.hamperlaw26_awake.f = some true) :
    Calls Tryd.prog 3 #[.string a, .int .i64 n, .agg #[.int .i64 d, .int .i64 r, .int .i64 s, .int .i64 m], .slice A0 vs.length c0] w fun e' w' => e' = .returned (.bool true) ∧ Below w.heap.size w w' := by
  have HLAID := Aside0.mk hL
  have F11 := Aside0.mk haw
  have HB := Aside0.mk (Below.refl w.heap.size w)
  clear hL haw
  have hu23 := Tryd.underlying23
  go_enter Tryd.func3, Tryd.ntmps3
  go_wp2_with (first | ((with_reducible refine gate_dst (N := 6) rfl ?_); refine box_event ?hg (N := 6) ?hd (cs := #[.int .i64 d, .int .i64 r, .int .i64 s, .int .i64 m]) (t := 23) ?hr ?_; (case hd => rfl); (case hg => rfl); (case hr => first | (go_simp; done) | (go_simp; rfl)); intro gb hg w1 hbox hb; have HB1 := Aside0.mk (below_step HB.out hb); have GB := Aside0.mk (show w.heap.size ≤ gb by rw [hg]; exact below_size HB.out); clear HB; have HB := HB1; clear HB1; have BK := Aside0.mk hbox; clear hb hbox hg))
  refine (A.hamperlaw26_awake.calls true _ F11.out (LaidW.of HLAID HB.out)).mono ?_
  rintro e' w3 ⟨rfl, hb⟩
  have HB1 := Aside0.mk (below_step HB.out hb)
  clear hb HB
  go_wp2_with fail
  go_ret
  exact ⟨rfl, HB1.out⟩
end Go.Proofs.YtnnkenbcdepafaaDoor.H

namespace Go.Proofs.YtnnkenbcdepafaaDoor.H
open Go.RowKit Go.Proofs.YtnnkenbcdepafaaDoorW.PrintWords Go.Proofs.YtnnkenbcdepafaaDoor.B
set_option linter.unusedVariables false

theorem cutB_length (a : ByteArray) (d r s m : Int) : (cutB a d r s m).1.length ≤ 96 ∧ ∀ rows ∈ (cutB a d r s m).1, rows.length ≤ 64 := by
  by_cases h : (countB a.size d r s m).2 = 0
  · obtain ⟨hsh, _, _, hk2, _, _⟩ := countB_ok h
    have hbs := shapeB_iff.1 hsh
    unfold cutB
    rw [if_pos h]
    refine ⟨?_, fun rows hr => ?_⟩
    · rw [volsTo_length]
      omega
    · obtain ⟨j, _, rfl⟩ := List.mem_map.1 hr
      rw [volTo_length]
      omega
  · unfold cutB
    rw [if_neg h]
    exact ⟨by simp, fun rows hr => by simp at hr⟩

theorem tells_all (a : ByteArray) (n d r s m : Int) (A0 : Option Addr) (c0 : Nat) (vs : List (List ByteArray)) (w : World) (hn : -9223372036854775808 ≤ n ∧ n ≤ 9223372036854775807) (hvs : vs.length ≤ 8796093022208)
    (hr0 : Kd.C (Kd.slice 9 Kd.string) w A0 vs.length vs) (hc0 : vs.length ≤ c0) (hL : LaidW w) :
    Calls Tryd.prog 3 #[.string a, .int .i64 n, .agg #[.int .i64 d, .int .i64 r, .int .i64 s, .int .i64 m], .slice A0 vs.length c0] w fun e' w' => e' = .returned (.bool true) ∧ Below w.heap.size w w' := by
  by_cases hsz : 3000 < a.size
  · exact tells_size a n d r s m A0 c0 vs w hL hsz awake_true
  · have hsz : a.size ≤ 3000 := by omega
    obtain ⟨b, ⟨K0, hb⟩, hf⟩ := long_f vs hvs
    cases b with
    | true => exact tells_long K0 a n d r s m A0 c0 vs w hr0 hc0 hL hsz (hb K0 (Nat.le_refl _)) awake_true
    | false =>
      have hv := hf rfl
      obtain ⟨hl1, hl2⟩ := cutB_length a d r s m
      obtain ⟨K1, h1⟩ := ref_cut a d r s m (by omega)
      obtain ⟨K2, h2⟩ := same_f (cutB a d r s m).1 (by omega) (fun rows hr => by have := hl2 rows hr; omega)
      obtain ⟨K3, h3⟩ := count_f n d r s m hn.1 hn.2
      obtain ⟨K4, h4⟩ := ref_count_f n d r s m
      obtain ⟨K5, h5⟩ := ref_join vs d r s m hv
      have hc : slice_Cut.f a d r s m = some (cutB a d r s m) := by
        unfold slice_Cut.f
        rw [if_pos (by omega)]
      have hj : slice_Join.f vs d r s m = some (joinB vs d r s m) := by
        unfold slice_Join.f
        rw [if_pos (by omega)]
      exact tells_yes (K0 + K1 + K2 + K3 + K4 + K5) a n d r s m A0 c0 vs w hr0 hc0 hL (cutB a d r s m).1 (cutB a d r s m).2 (countB n d r s m).1 (countB n d r s m).2 (joinB vs d r s m).2 (joinB vs d r s m).1 (shapeB d r s m) hsz (by omega)
        (hb _ (by omega)) hc (h1 _ (by omega)) (h2 _ (by omega)) (h3 _ (by omega)) (h4 _ (by omega)) hj (h5 _ (by omega)) (shape_f d r s m) (ref_shape_f d r s m) awake_true
end Go.Proofs.YtnnkenbcdepafaaDoor.H
