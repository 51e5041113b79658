/- A hash of no bytes; bytes added to it: package blake's New and add. A hash copied, and its digest: package blake's Copy and Sum. A hash's digest, and the digest of bytes: package blake's Sum. The ID of a place's archive: package slice's ID. -/
import Derived.Test.YtnnkenbcdepafaaGreatDoorK2
import Derived.Test.YtnnkenbcdepafaaGreatDoorH1
import Derived.Test.YtnnkenbcdepafaaGreatDoorHParse
namespace Go.Proofs.YtnnkenbcdepafaaGreatDoor.K
open Go.RowKit Go.Proofs.YtnnkenbcdepafaaGreatDoorW.PrintWords Go.Proofs.YtnnkenbcdepafaaGreatDoorW.PrintLast Go.Proofs.YtnnkenbcdepafaaGreatDoorW.PrintMore Go.Proofs.YtnnkenbcdepafaaGreatDoor.B
set_option linter.unusedVariables false
set_option linter.unusedSimpArgs false

set_option maxHeartbeats 4000000 in
set_option maxRecDepth 100000 in
theorem made_calls (w : World) : Calls Tryz.prog 69 #[.string ⟨#[]⟩] w fun e w' =>
    ∃ g, e = .returned (.pointer (some ⟨g, 0, none⟩)) ∧ w.heap.size ≤ g ∧ w'.heap[g]? = some (.cells (hashA h0U (.slice none 0 0) 0) 102 (0, 0)) ∧ Below w.heap.size w w' := by
  go_enter Tryz.func69, Tryz.ntmps69
  go_wp2_with fail
  refine (firsts_calls _).mono ?_
  rintro e' w1 ⟨rfl, hb⟩
  have HB := Aside0.mk hb
  clear hb
  go_wp2_with (first | ((with_reducible refine gate_dst (N := 5) rfl ?_); refine wpList_build_to rfl 102 _ rfl (hashA ivU (.slice none 0 0) 0) (by kernel_rfl) ?_; simp only [Act.put, List.setIfInBounds_toArray, List.set_cons_zero, List.set_cons_succ]))
  have HH := Aside0.mk (blk_new w1 (.cells (hashA ivU (.slice none 0 0) 0) 102))
  have HB1 := Aside0.mk (below_alloc HB.out (.cells (hashA ivU (.slice none 0 0) 0) 102))
  have HS := Aside0.mk (below_size HB.out)
  clear HB
  generalize w1.alloc (.cells (hashA ivU (.slice none 0 0) 0) 102) = w2 at *
  obtain ⟨g, hg⟩ : ∃ g, g = w1.heap.size := ⟨_, rfl⟩
  rw [← hg] at HH HS
  rw [← hg]
  clear hg
  have z0 := (blk_cell HH.out 0).trans (hashA_h (h := ivU) rfl _ _ 0 (by decide))
  have f0 := blk_frozen HH.out 0
  go_region
  rw [show bits .xor .u32 16842784 0 = ((16842784 : UInt32).toNat : Int) by decide, xorU]
  have HH1 := Aside0.mk (blk_drew (blk_put HH.out 0 (.int .u32 ((getU ivU 0 ^^^ 16842784).toNat : Int)) (hashA_set_h (h := ivU) rfl (.slice none 0 0) 0 0 (by decide) _)))
  have HB2 := Aside0.mk ((HB1.out.setCell (p := ⟨g, 0, none⟩) HS.out (.int .u32 ((getU ivU 0 ^^^ 16842784).toNat : Int))).drew)
  clear z0 f0 HH HB1
  generalize (w2.setCell ⟨g, 0, none⟩ (.int .u32 ((getU ivU 0 ^^^ 16842784).toNat : Int))).drew = w3 at *
  go_wp2_with fail
  go_ret
  exact ⟨g, rfl, HS.out, HH1.out, HB2.out⟩

set_option maxHeartbeats 4000000 in
set_option maxRecDepth 100000 in
theorem new_calls (w : World) : Calls Tryz.prog 43 #[] w fun e w' =>
    ∃ g, e = .returned (.pointer (some ⟨g, 0, none⟩)) ∧ w.heap.size ≤ g ∧ w'.heap[g]? = some (.cells (hashA h0U (.slice none 0 0) 0) 102 (0, 0)) ∧ Below w.heap.size w w' := by
  go_enter Tryz.func43, Tryz.ntmps43
  go_wp2_with fail
  refine (made_calls _).mono ?_
  rintro e' w1 ⟨g, rfl, h1, h2, h3⟩
  have H1 := Aside0.mk h1
  have H2 := Aside0.mk h2
  have H3 := Aside0.mk h3
  clear h1 h2 h3
  go_wp2_with fail
  go_ret
  exact ⟨g, rfl, H1.out, H2.out, H3.out⟩

theorem below_undrew {B : Nat} {w w1 : World} (h : Below B w.drew w1) : Below B w w1 := ⟨h.os, h.tape, h.output, h.size, h.block⟩
/-- What is not mixed in yet: nothing, or bytes from some place of a block on. -/
def RestIs (w : World) (base : Nat) (v : Value) (l : List UInt8) : Prop :=
  (v = .slice none 0 0 ∧ l = []) ∨ ∃ g off cap cur, v = .slice (some ⟨g, off, none⟩) l.length cap ∧ base ≤ g ∧ l.length ≤ cap ∧ w.heap[g]? = some (.cells cur 5 (0, 0)) ∧ ∀ i, i < l.length → cur[off + i]? = some (.int .u8 ((l.getD i 0).toNat : Int))

set_option maxHeartbeats 4000000 in
set_option maxRecDepth 100000 in
theorem add_calls (B gh : Nat) (s : ByteArray) (w : World) (hH : w.heap[gh]? = some (.cells (hashA h0U (.slice none 0 0) 0) 102 (0, 0))) (hB : B ≤ gh) (hs : s.size ≤ 140737488351232) :
    Calls Tryz.prog 44 #[.pointer (some ⟨gh, 0, none⟩), .string s] w fun e w' => (∃ r, e = .returned r) ∧
      ∃ rest, w'.heap[gh]? = some (.cells (hashA (hTo s.data.toList (ahead s.size)) rest (64 * ahead s.size)) 102 (0, 0)) ∧ RestIs w' w.heap.size rest (s.data.toList.drop (64 * ahead s.size)) ∧ Below B w w' ∧ Kept w w' (fun q => q = gh) := by
  have HH := Aside0.mk hH
  clear hH
  have z8 := (blk_cell HH.out 8).trans (hashA_rest (h := h0U) rfl (.slice none 0 0) 0)
  have f8 := blk_frozen HH.out 8
  by_cases hs0 : s.size = 0
  · obtain rfl : s = ⟨#[]⟩ := by
      have h1 : s.data.toList = [] := List.eq_nil_of_length_eq_zero (by rw [← Lib.size_eq]; exact hs0)
      have h2 : s.data = #[] := Array.toList_inj.1 (by rw [h1])
      cases s
      rw [← h2]
    have hap : ∀ w, (Builtin.append_ #[54, 9] 54 #[.slice none 0 0, .string ⟨#[]⟩]).run Tryz.prog w = .ok (.slice none 0 0) w := fun _ => by kernel_rfl
    go_enter Tryz.func44, Tryz.ntmps44
    go_wp2_with fail
    go_cut [] (fun wx => Aside0 (wx.heap[gh]? = some (.cells (hashA h0U (.slice none 0 0) 0) 102 (0, 0))) ∧ Aside0 (Below B w wx) ∧ Aside0 (Kept w wx (fun q => q = gh)))
    case first =>
      go_region
      all_goals
        go_wp2_with fail
        go_meet
        case rel => exact ⟨⟨blk_drew (blk_put HH.out 8 (.slice none 0 0) (hashA_set_rest (h := h0U) rfl _ _ _))⟩, ⟨(Below.setCell (p := ⟨gh, 8, none⟩) (Below.refl B w) hB (.slice none 0 0)).drew⟩, ⟨(Kept.setCell (p := ⟨gh, 8, none⟩) (Kept.refl w (fun q => q = gh)) (.inl rfl) (.slice none 0 0)).drew⟩⟩
    case rest =>
      clear HH z8 f8
      obtain ⟨HH, HB, HK⟩ := hcut
      go_wp2_with fail
      go_loopg [] 0 (fun gk wx => Aside0 (wx.heap[gh]? = some (.cells (hashA h0U (.slice none 0 0) 0) 102 (0, 0))) ∧ Aside0 (Below B w wx) ∧ Aside0 (Kept w wx (fun q => q = gh)))
      case atStart => exact ⟨HH, HB, HK⟩
      case round =>
        clear HH HB HK
        obtain ⟨HH, HB, HK⟩ := hrel
        have z8 := (blk_cell HH.out 8).trans (hashA_rest (h := h0U) rfl _ _)
        go_wp2_with fail
        go_end0
        exact ⟨⟨_, rfl⟩, .slice none 0 0, HH.out, .inl ⟨rfl, rfl⟩, HB.out, HK.out⟩
  · go_enter Tryz.func44, Tryz.ntmps44
    go_wp2_with fail
    go_cut [] (fun wx => ∃ (g cap : Nat) (cur : Array Value), Aside0 (w.heap.size ≤ g) ∧ Aside0 (s.size ≤ cap) ∧ Aside0 (wx.heap[g]? = some (.cells cur 5 (0, 0))) ∧ Aside0 (cur.toList.take s.size = Lib.strCells s) ∧
      Aside0 (wx.heap[gh]? = some (.cells (hashA h0U (.slice (some ⟨g, 0, none⟩) s.size cap) 0) 102 (0, 0))) ∧ Aside0 (Below B w wx) ∧ Aside0 (Kept w wx (fun q => q = gh)))
    case first =>
      go_region_law (refine step_append_nil_string rfl (.tmp 19) (.tmp 20) 54 9 rfl 5 _ Tryz.underlying54 Tryz.underlying9 (by rfl) (by rfl) (by rfl) (by rfl) rfl s rfl ?h63 ?hpos ?_; (case h63 => omega); (case hpos => omega); intro g cap cur w1 hg hcap hcur htk hb; have z9 := blk_cell (blk_below (by repeat (first | exact HH.out | refine blk_drew ?_ | refine blk_drewN ?_ _)) hb) 8; rw [hashA_rest (h := h0U) rfl] at z9; have f9 := blk_frozen (blk_below (by repeat (first | exact HH.out | refine blk_drew ?_ | refine blk_drewN ?_ _)) hb) 8)
      all_goals
        go_wp2_with fail
        go_meet
        case rel => exact ⟨g, cap, cur, ⟨hg⟩, ⟨hcap⟩, ⟨blk_far hcur (p := ⟨gh, 8, none⟩) (Nat.ne_of_gt (Nat.lt_of_lt_of_le (blk_lt HH.out) hg)) _⟩, ⟨htk⟩, ⟨blk_put (blk_below HH.out (below_undrew hb)) 8 _ (hashA_set_rest (h := h0U) rfl _ _ _)⟩, ⟨Below.setCell (p := ⟨gh, 8, none⟩) ((below_undrew hb).mono (Nat.le_trans hB (Nat.le_of_lt (blk_lt HH.out)))) hB _⟩, ⟨Kept.setCell (p := ⟨gh, 8, none⟩) (Kept.of_below (below_undrew hb) (fun q => q = gh)) (.inl rfl) _⟩⟩
    case rest =>
      clear HH z8 f8
      obtain ⟨g, cap, cur, HG, HC, HU, HT, HH, HB, HK⟩ := hcut
      go_wp2_with fail
      obtain ⟨n, hn⟩ : ∃ n, n = s.size := ⟨_, rfl⟩
      obtain ⟨L, hL⟩ : ∃ L, L = s.data.toList := ⟨_, rfl⟩
      have hLn : L.length = n := by rw [hL, hn, ← Lib.size_eq]
      have hbytes : ∀ i, i < n → cur[i]? = some (.int .u8 ((L.getD i 0).toNat : Int)) := by
        intro i hi
        have h1 : (cur.toList.take s.size)[i]? = (Lib.strCells s)[i]? := by rw [HT.out]
        rw [List.getElem?_take_of_lt (by omega), Array.getElem?_toList] at h1
        rw [h1]
        unfold Lib.strCells
        rw [← hL, List.getElem?_map, List.getD_eq_getElem?_getD, List.getElem?_eq_getElem (by omega)]
        rfl
      have HBY := Aside0.mk hbytes
      have HLE := Aside0.mk (And.intro hn hL)
      have hn0 : 0 < n := by omega
      have hnm : n ≤ 140737488351232 := by omega
      rw [← hn] at HC HH
      have hcn : n ≤ cap := HC.out
      clear hn hL hbytes HT HC hs0 hs
      go_loopg [] n (fun gk wx => ∃ (j : Nat), 64 * j ≤ n ∧ Aside0 (j = 0 ∨ 64 * j < n) ∧ Aside0 (n - j ≤ gk) ∧ Aside0 (wx.heap[g]? = some (.cells cur 5 (0, 0))) ∧
        Aside0 (wx.heap[gh]? = some (.cells (hashA (hTo L j) (.slice (some ⟨g, 64 * j, none⟩) (n - 64 * j) (cap - 64 * j)) (64 * j)) 102 (0, 0))) ∧ Aside0 (Below B w wx) ∧ Aside0 (Kept w wx (fun q => q = gh)))
      case atStart => exact ⟨0, by omega, ⟨.inl rfl⟩, ⟨by omega⟩, HU, HH, HB, HK⟩
      case round =>
        clear HU HH HB HK
        obtain ⟨j, hj, HJ, HGK, HU, HH, HB, HK⟩ := hrel
        have z8 := (blk_cell HH.out 8).trans (hashA_rest (hTo_length L j) _ _)
        have f8 := blk_frozen HH.out 8
        obtain ⟨o, ho⟩ : ∃ o, o = 64 * j := ⟨_, rfl⟩
        obtain ⟨m, hm⟩ : ∃ m, m = n - o := ⟨_, rfl⟩
        obtain ⟨c, hc⟩ : ∃ c, c = cap - o := ⟨_, rfl⟩
        rw [← ho] at z8 HH hj
        rw [← hm, ← hc] at z8 HH
        have HE := Aside0.mk (And.intro ho (And.intro hm hc))
        have hmn : o + m ≤ n := by omega
        have hmc' : m ≤ c := by omega
        clear ho hm hc
        by_cases hlt : 64 < m
        · have hb64 : decide ((64 : Int) < (m : Int)) = true := decide_eq_true (by omega)
          have hmc : (64 : Int) ≤ (c : Int) := by omega
          have hmm : (64 : Int) ≤ (m : Int) := by omega
          have hc64 : c ≠ 64 := by omega
          go_wp2_with fail
          have hcells : ∀ i, i < 64 → wr.cell? ⟨g, o + i, none⟩ = some (.int .u8 (((L.drop o).getD i 0).toNat : Int)) := by
            intro i hi
            rw [blk_cell HU.out, HBY.out _ (by omega), List.getD_eq_getElem?_getD, List.getD_eq_getElem?_getD, List.getElem?_drop]
          refine (take_calls B gh g o c (hTo L j) _ o 64 (L.drop o) false _ HH.out (hTo_length L j) hB hcells ?hne ?hgm ?hmm).mono ?_
          case hne =>
            intro e
            have h1 := HU.out
            rw [e, HH.out] at h1
            injection h1 with h1
            injection h1 with _ h2 _
            exact absurd h2 (by decide)
          case hgm => omega
          case hmm => omega
          rintro e' w2 ⟨⟨rv, rfl⟩, h1, h2, h3⟩
          obtain ⟨o2, ho2⟩ : ∃ q, q = o + 64 := ⟨_, rfl⟩
          have e2 : hTo L (j + 1) = blkU (hTo L j) (L.drop o) o2 false := by
            rw [ho2, HE.out.1]
            rfl
          rw [← ho2, ← e2] at h1
          have HU2 := Aside0.mk (blk_kept HU.out h3 (fun e => by
            have h1 := HU.out
            rw [e, HH.out] at h1
            injection h1 with h1
            injection h1 with _ h2 _
            exact absurd h2 (by decide)))
          have HH2 := Aside0.mk h1
          have HB2 := Aside0.mk (HB.out.trans h2)
          have HK2 := Aside0.mk (HK.out.then_ h3 (fun q hq => .inl hq))
          have z9 := (blk_cell h1 8).trans (hashA_rest (hTo_length L (j + 1)) _ _)
          have f9 := blk_frozen h1 8
          have HO2 := Aside0.mk ho2
          clear h1 h2 h3 e2 ho2 z8 f8 HU HH HB HK
          go_wp2_with fail
          have hv : Value.slice (some ⟨g, o + 64, none⟩) (m - 64) (c - 64) = Value.slice (some ⟨g, 64 * (j + 1), none⟩) (n - 64 * (j + 1)) (cap - 64 * (j + 1)) := by
            obtain ⟨h1, h2, h3⟩ := HE.out
            rw [show o + 64 = 64 * (j + 1) by omega, show m - 64 = n - 64 * (j + 1) by omega, show c - 64 = cap - 64 * (j + 1) by omega]
          rw [hv]
          have ho2 : o2 = 64 * (j + 1) := by
            have h1 := HE.out.1
            have h2 := HO2.out
            omega
          have HX := Aside0.mk (show 64 * (j + 1) < n ∧ n - (j + 1) < n - j by
            obtain ⟨h1, h2, h3⟩ := HE.out
            omega)
          rw [ho2] at HH2
          have hgg : g ≠ gh := fun e => by
            have h1 := HU2.out
            rw [e, HH2.out] at h1
            injection h1 with h1
            injection h1 with _ h2 _
            exact absurd h2 (by decide)
          have HU3 := Aside0.mk (blk_far HU2.out (p := ⟨gh, 8, none⟩) hgg (.slice (some ⟨g, 64 * (j + 1), none⟩) (n - 64 * (j + 1)) (cap - 64 * (j + 1))))
          have HH3 := Aside0.mk (blk_put HH2.out 8 (.slice (some ⟨g, 64 * (j + 1), none⟩) (n - 64 * (j + 1)) (cap - 64 * (j + 1))) (hashA_set_rest (hTo_length L (j + 1)) _ _ _))
          have HB3 := Aside0.mk (HB2.out.setCell (p := ⟨gh, 8, none⟩) hB (.slice (some ⟨g, 64 * (j + 1), none⟩) (n - 64 * (j + 1)) (cap - 64 * (j + 1))))
          have HK3 := Aside0.mk (HK2.out.setCell (p := ⟨gh, 8, none⟩) (.inl rfl) (.slice (some ⟨g, 64 * (j + 1), none⟩) (n - 64 * (j + 1)) (cap - 64 * (j + 1))))
          clear hv ho2 hgg z9 f9 HU2 HH2 HB2 HK2
          go_roundg (n - (j + 1))
          case measure =>
            have h1 := HX.out
            have h2 := HGK.out
            omega
          case rel => exact ⟨j + 1, by have := HX.out; omega, ⟨.inr HX.out.1⟩, ⟨Nat.le_refl _⟩, HU3, HH3, HB3, HK3⟩
        · have hb64 : decide ((64 : Int) < (m : Int)) = false := decide_eq_false (by omega)
          have hb64' : decide (64 < m) = false := decide_eq_false hlt
          go_wp2_with fail
          go_end0
          refine ⟨⟨_, rfl⟩, .slice (some ⟨g, o, none⟩) m c, ?_, ?_, HB.out, HK.out⟩
          · have hj : ahead s.size = j := by
              obtain ⟨h1, h2, h3⟩ := HE.out
              obtain ⟨h4, h5⟩ := HLE.out
              have h6 := HJ.out
              unfold ahead
              rw [← h4]
              omega
            rw [hj, ← HLE.out.2, ← HE.out.1]
            exact HH.out
          · have hj : 64 * ahead s.size = o := by
              obtain ⟨h1, h2, h3⟩ := HE.out
              obtain ⟨h4, h5⟩ := HLE.out
              have h6 := HJ.out
              unfold ahead
              rw [← h4]
              omega
            rw [hj, ← HLE.out.2]
            have hd : (L.drop o).length = m := by
              rw [List.length_drop, hLn]
              exact HE.out.2.1.symm
            refine .inr ⟨g, o, c, cur, by rw [hd], HG.out, by omega, HU.out, fun i hi => ?_⟩
            rw [hd] at hi
            rw [HBY.out _ (by omega), List.getD_eq_getElem?_getD, List.getD_eq_getElem?_getD, List.getElem?_drop]
end Go.Proofs.YtnnkenbcdepafaaGreatDoor.K

namespace Go.Proofs.YtnnkenbcdepafaaGreatDoor.K
open Go.RowKit Go.Proofs.YtnnkenbcdepafaaGreatDoorW.PrintWords Go.Proofs.YtnnkenbcdepafaaGreatDoorW.PrintLast Go.Proofs.YtnnkenbcdepafaaGreatDoorW.PrintMore Go.Proofs.YtnnkenbcdepafaaGreatDoor.B
set_option linter.unusedVariables false
set_option linter.unusedSimpArgs false

theorem hashA_size {h : List UInt32} (hl : h.length = 8) (rest : Value) (gone : Nat) : (hashA h rest gone).size = 10 := by simp [hashA, hl]
theorem hashA_one {h : List UInt32} {rest : Value} {gone : Nat} (hr : rest.oneCell' = true) : (hashA h rest gone).all (·.oneCell') = true :=
  all_oneCell_toArray (fun v hv => by
    rcases List.mem_append.1 hv with h1 | h1
    · exact oneCell_U h v h1
    · simp at h1
      rcases h1 with rfl | rfl
      · exact hr
      · rfl)

def zerosA (n : Nat) : Array Value := (List.replicate n (Value.int .u8 0)).toArray
set_option maxRecDepth 100000 in
theorem make_bytes (n : Nat) (h : n ≤ 64) : ∀ w, (Instr.makeSlice 54 (.int .i64 (n : Int)) (.int .i64 (n : Int))).run Tryz.prog w = .ok (.slice (some ⟨w.heap.size, 0, none⟩) n n) (w.alloc (.cells (zerosA n) 5)) := by
  intro w
  have h1 := run_make (P := Tryz.prog) w 54 5 _ (.int .u8 0) Tryz.underlying54 (by rfl) (by rfl) .i64 .i64 (n : Int) (n : Int) (by omega) (Int.le_refl _) (by show ((1 : Nat) : Int) * (n : Int) ≤ _; omega) (by omega)
  rw [Int.toNat_natCast] at h1
  rw [h1]
  have h2 : madeCells (Value.int .u8 0).cells (n * 1) = zerosA n := by
    apply Array.ext'
    rw [Nat.mul_one]
    exact toList_madeCells_one _ _
  exact congrArg (fun q => Result.ok (Value.slice (some ⟨w.heap.size, 0, none⟩) n n) (w.alloc (.cells q 5))) h2
theorem RestIs.form {w : World} {base : Nat} {v : Value} {l : List UInt8} (h : RestIs w base v l) :
    ∃ (A : Option Addr) (c : Nat), v = .slice A l.length c ∧ (0 < l.length → ∃ g off, A = some ⟨g, off, none⟩ ∧ ∃ cur, w.heap[g]? = some (.cells cur 5 (0, 0)) ∧ ∀ i, i < l.length → cur[off + i]? = some (.int .u8 ((l.getD i 0).toNat : Int))) := by
  rcases h with ⟨rfl, rfl⟩ | ⟨g, off, cap, cur, rfl, _, _, h1, h2⟩
  · exact ⟨none, 0, rfl, fun h => by simp at h⟩
  · exact ⟨_, _, rfl, fun _ => ⟨g, off, rfl, cur, h1, h2⟩⟩

theorem oneCell_B (l : List UInt8) : ∀ v ∈ Lib.byteCells l, v.oneCell' = true := by
  intro v hv
  obtain ⟨x, _, rfl⟩ := List.mem_map.1 hv
  rfl
theorem copy_len {n : Nat} {l : List UInt8} (hn : n = l.length) : (Lib.byteCells l).length = Nat.min n n := by
  rw [Lib.byteCells_length, hn]
  exact (Nat.min_self _).symm
theorem copy_fit {n : Nat} {l : List UInt8} (hn : n = l.length) : 0 + (Lib.byteCells l).length ≤ (List.replicate n (Value.int .u8 0)).length := by
  rw [Lib.byteCells_length, List.length_replicate]
  omega
theorem copy_all {n : Nat} {l : List UInt8} (hn : n = l.length) : splice (List.replicate n (Value.int .u8 0)) 0 (Lib.byteCells l) = Lib.byteCells l := by
  unfold splice
  rw [List.take_zero, List.nil_append, List.drop_eq_nil_of_le (by rw [Lib.byteCells_length, List.length_replicate]; omega), List.append_nil]
theorem copy_src {w W W' : World} {n : Nat} {A : Option Addr} {l : List UInt8} (hs : 0 < n → ∃ g off, A = some ⟨g, off, none⟩ ∧ ∃ cur, w.heap[g]? = some (.cells cur 5 (0, 0)) ∧ ∀ i, i < n → cur[off + i]? = some (.int .u8 ((l.getD i 0).toNat : Int))) (hn : n = l.length) (hb : Below w.heap.size w W) (hp : 0 < (Lib.byteCells l).length) (hW : W'.heap = W.heap := by rfl) :
    ∃ ad, A = some ad ∧ ∀ j v, (Lib.byteCells l)[j]? = some v → W'.cell? (ad.add j) = some v := by
  rw [Lib.byteCells_length] at hp
  obtain ⟨g, off, hA, cur, h1, h2⟩ := hs (by omega)
  refine ⟨_, hA, src_of_block (C := cur) (t := 5) (fr := (0, 0)) (by rw [hW]; exact blk_below h1 hb) off _ (fun j v hv => ?_)⟩
  have hj := (List.getElem?_eq_some_iff.1 hv).1
  rw [Lib.byteCells_length] at hj
  rw [h2 j (by omega)]
  unfold Lib.byteCells at hv
  rw [List.getElem?_map, List.getElem?_eq_getElem hj] at hv
  rw [List.getD_eq_getElem?_getD, List.getElem?_eq_getElem hj]
  exact hv

set_option maxHeartbeats 4000000 in
set_option maxRecDepth 100000 in
theorem copy_calls (gh : Nat) (h : List UInt32) (rest : Value) (gone base : Nat) (l : List UInt8) (w : World) (hH : w.heap[gh]? = some (.cells (hashA h rest gone) 102 (0, 0))) (hl : h.length = 8) (hR : RestIs w base rest l) (hle : l.length ≤ 64) :
    Calls Tryz.prog 71 #[.pointer (some ⟨gh, 0, none⟩)] w fun e w' =>
      ∃ g g2, e = .returned (.pointer (some ⟨g, 0, none⟩)) ∧ w.heap.size ≤ g ∧ w.heap.size ≤ g2 ∧ w'.heap[g]? = some (.cells (hashA h (.slice (some ⟨g2, 0, none⟩) l.length l.length) gone) 102 (0, 0)) ∧
        w'.heap[g2]? = some (.cells (Lib.byteCells l).toArray 5 (0, 0)) ∧ Below w.heap.size w w' := by
  have HH := Aside0.mk hH
  obtain ⟨A, c, hrest, hsrc⟩ := hR.form
  subst hrest
  obtain ⟨n, hn⟩ : ∃ n, n = l.length := ⟨_, rfl⟩
  rw [← hn] at hle hsrc HH
  rw [← hn]
  have HN := Aside0.mk hn
  have HS := Aside0.mk hsrc
  have hz := (zero_of_info (P := Tryz.prog) (t := 102) (v := .agg (hashA (List.replicate 8 0) (.slice none 0 0) 0)) (n := 10) (by kernel_rfl)).1
  have HMK := Aside0.mk (make_bytes n hle)
  have HGH := Aside0.mk (blk_lt hH)
  clear hH hR hn hsrc
  go_enter Tryz.func71, Tryz.ntmps71
  go_upto_region 4 with (first | ((with_reducible refine gate_dst (N := 8) rfl ?_); refine wpList_load_row rfl 102 _ rfl gh rfl 102 (hashA h (.slice A n c) gone) (0, 0) _ HH.out Tryz.underlying102 rfl (by rw [hashA_size hl]; kernel_rfl) ?_; simp only [Act.put, List.setIfInBounds_toArray, List.set_cons_zero, List.set_cons_succ]) | (refine wpList_store_row rfl 102 (.tmp 3) (.tmp 8) rfl w.heap.size (hashA h (.slice A n c) gone) rfl rfl 102 _ (heap_alloc_new w _) (by rw [hashA_size hl]; kernel_rfl) (by rw [hashA_size hl]; rfl) (hashA_one rfl) ?_; rw [setRow_new]; simp only [Act.put]))
  have HC1 := Aside0.mk (blk_new w (.cells (hashA h (.slice A n c) gone) 102))
  have HH1 := Aside0.mk (blk_alloc HH.out (.cells (hashA h (.slice A n c) gone) 102))
  have HB1 := Aside0.mk (below_alloc (Below.refl w.heap.size w) (.cells (hashA h (.slice A n c) gone) 102))
  have HLC := Aside0.mk (blk_lt HC1.out)
  clear hz
  generalize w.alloc (.cells (hashA h (.slice A n c) gone) 102) = w1 at *
  obtain ⟨gc, hgc⟩ : ∃ g, g = w.heap.size := ⟨_, rfl⟩
  rw [← hgc] at HC1 HLC HGH
  rw [← hgc]
  have HGC := Aside0.mk hgc
  clear hgc
  have z8 := (blk_cell HH1.out 8).trans (hashA_rest hl _ _)
  have hmk := HMK.out
  have f8 := blk_frozen (blk_alloc HC1.out (.cells (zerosA n) 5)) 8
  have c8 := (blk_cell (blk_alloc HC1.out (.cells (zerosA n) 5)) 8).trans (hashA_rest hl _ _)
  go_wp2_with fail
  have HC2 := Aside0.mk (blk_put (blk_alloc HC1.out (.cells (zerosA n) 5)) 8 (.slice (some ⟨w1.heap.size, 0, none⟩) n n) (hashA_set_rest hl _ _ _))
  have HZ2 := Aside0.mk (blk_far (blk_new w1 (.cells (zerosA n) 5)) (p := ⟨gc, 8, none⟩) (Nat.ne_of_gt (blk_lt HC1.out)) (.slice (some ⟨w1.heap.size, 0, none⟩) n n))
  have HH2 := Aside0.mk (blk_far (blk_alloc HH1.out (.cells (zerosA n) 5)) (p := ⟨gc, 8, none⟩) (Nat.ne_of_lt HGH.out) (.slice (some ⟨w1.heap.size, 0, none⟩) n n))
  have HB2 := Aside0.mk ((below_alloc HB1.out (.cells (zerosA n) 5)).setCell (p := ⟨gc, 8, none⟩) (Nat.le_of_eq HGC.out.symm) (.slice (some ⟨w1.heap.size, 0, none⟩) n n))
  clear HC1 HH1 HB1 z8 hmk f8 c8
  generalize (w1.alloc (.cells (zerosA n) 5)).setCell ⟨gc, 8, none⟩ (.slice (some ⟨w1.heap.size, 0, none⟩) n n) = w2 at *
  obtain ⟨g2, hg2⟩ : ∃ g, g = w1.heap.size := ⟨_, rfl⟩
  rw [← hg2] at HC2 HZ2 HLC
  rw [← hg2]
  clear hg2
  have z8 := (blk_cell HH2.out 8).trans (hashA_rest hl _ _)
  have c8 := (blk_cell HC2.out 8).trans (hashA_rest hl _ _)
  go_wp2_with fail
  go_region_law (refine step_copy_splice rfl (.tmp 17) (.tmp 21) 54 54 rfl 5 Tryz.underlying54 (by kernel_rfl) _ _ _ _ _ _ rfl rfl g2 0 (List.replicate n (Value.int .u8 0)) 5 ?hg (Lib.byteCells l) ?hn ?hpos ?hfit ?h1 g2 w2 ?hbel (Nat.le_refl _) ?_; (case hg => repeat (first | exact HZ2.out | refine blk_drew ?_ | refine blk_drewN ?_ _)); (case hn => exact copy_len HN.out); (case hpos => exact fun hp => ⟨rfl, copy_src HS.out HN.out HB2.out hp⟩); (case hfit => exact copy_fit HN.out); (case h1 => exact oneCell_B l); (case hbel => repeat (first | exact Below.refl _ _ | apply pw_below_drewN | apply below_drew1)); intro w3 HG3 hb3)
  all_goals
    rw [copy_all HN.out] at HG3
    have H3 := Aside0.mk HG3.out
    have HB3 := Aside0.mk hb3
    clear HG3 hb3
    go_wp2_with fail
    go_ret
    refine ⟨gc, g2, rfl, Nat.le_of_eq HGC.out.symm, ?_, ?_, H3.out, ?_⟩
    · rw [← HGC.out]
      exact Nat.le_of_lt HLC.out
    · exact (HB3.out.block gc HLC.out).trans HC2.out
    · exact HB2.out.trans (HB3.out.mono (by rw [← HGC.out]; exact Nat.le_of_lt HLC.out))
end Go.Proofs.YtnnkenbcdepafaaGreatDoor.K

namespace Go.Proofs.YtnnkenbcdepafaaGreatDoor.K
open Go.RowKit Go.Proofs.YtnnkenbcdepafaaGreatDoorW.PrintWords Go.Proofs.YtnnkenbcdepafaaGreatDoorW.PrintLast Go.Proofs.YtnnkenbcdepafaaGreatDoorW.PrintMore Go.Proofs.YtnnkenbcdepafaaGreatDoor.B Go.Proofs.YtnnkenbcdepafaaGreatDoor.H
set_option linter.unusedVariables false
set_option linter.unusedSimpArgs false

set_option maxRecDepth 100000 in
theorem pad_bytes {w1 : World} {g2 n : Nat} {l : List UInt8} (hn : n = l.length) (hle : n ≤ 64) (hL : w1.heap[g2]? = some (.cells (Lib.byteCells l).toArray 5 (0, 0))) :
    ∃ g3 c3 w3, (Builtin.append_ #[54, 3] 54 #[.slice (some ⟨g2, 0, none⟩) n n, .int .i64 (64 - (n : Int))]).run Tryz.prog w1 = .ok (.slice (some ⟨g3, 0, none⟩) 64 c3) w3 ∧
      (∀ i, i < 64 → w3.cell? ⟨g3, 0 + i, none⟩ = some (.int .u8 ((l.getD i 0).toNat : Int))) ∧ Below w1.heap.size w1 w3 ∧ ∃ C, w3.heap[g3]? = some (.cells C 5 (0, 0)) := by
  have hb : ∀ i, i < n → (Lib.byteCells l)[i]? = some (.int .u8 ((l.getD i 0).toNat : Int)) := by
    intro i hi
    unfold Lib.byteCells
    rw [List.getElem?_map, List.getD_eq_getElem?_getD, List.getElem?_eq_getElem (by omega)]
    rfl
  by_cases h64 : n = 64
  · refine ⟨g2, 64, w1, ?_, ?_, Below.refl _ _, _, hL⟩
    · have h := run_append_zeros0 (P := Tryz.prog) (w := w1) 54 3 54 5 _ .i64 .i64 Tryz.underlying54 Tryz.underlying3 (by rfl) (by rfl) (by rfl) (by rfl) ⟨g2, 0, none⟩ 64 64 (Nat.le_refl _)
      rw [h64]
      exact h
    · intro i hi
      rw [Nat.zero_add, blk_cell hL, List.getElem?_toArray]
      exact hb i (by omega)
  · obtain ⟨c, h⟩ := run_append_zeros (P := Tryz.prog) (w := w1) 54 3 54 5 _ .i64 .i64 Tryz.underlying54 Tryz.underlying3 (by rfl) (by rfl) (by rfl) (by rfl) ⟨g2, 0, none⟩ n (64 - n) (Lib.byteCells l) (by rw [Lib.byteCells_length]; exact hn.symm) (src_of_block hL 0 _ (fun j v hv => by rw [Nat.zero_add, List.getElem?_toArray]; exact hv)) (by omega) (by omega)
    rw [show n + (64 - n) = 64 by omega] at h
    rw [show (64 : Int) - (n : Int) = ((64 - n : Nat) : Int) by omega]
    refine ⟨w1.heap.size, c, _, h, ?_, ?_, _, heap_alloc_new w1.drew _⟩
    · intro i hi
      rw [Nat.zero_add, cell_of_row _ w1.heap.size i _ _ _ (heap_alloc_new w1.drew _), List.getElem?_toArray]
      by_cases hin : i < n
      · rw [List.getElem?_append_left (by rw [Lib.byteCells_length]; omega)]
        exact hb i hin
      · rw [List.getElem?_append_right (by rw [Lib.byteCells_length]; omega), List.getElem?_replicate, if_pos (by rw [Lib.byteCells_length]; omega), List.getD_eq_getElem?_getD, List.getElem?_eq_none (by omega)]
        rfl
    · exact (Below.refl w1.heap.size w1).drew.alloc (Nat.le_refl _) _

theorem byteU (z : UInt32) : ((z.toNat : Int) % 256).toNat.toUInt8 = z.toUInt8 := by
  apply UInt8.toNat_inj.1
  rw [Nat.toUInt8, UInt8.toNat_ofNat', UInt32.toNat_toUInt8]
  omega
def yTo (y : UInt32) : Nat → UInt32
  | 0 => y
  | j + 1 => yTo y j >>> 8
theorem shr8 (y : UInt32) (n : Nat) (h : n + 8 < 32) : y >>> UInt32.ofNat n >>> 8 = y >>> UInt32.ofNat (n + 8) := by
  apply UInt32.toNat_inj.1
  rw [UInt32.toNat_shiftRight, UInt32.toNat_shiftRight, UInt32.toNat_shiftRight, UInt32.toNat_ofNat_of_lt' (show n < 4294967296 by omega), UInt32.toNat_ofNat_of_lt' (show n + 8 < 4294967296 by omega), show (8 : UInt32).toNat = 8 from rfl, Nat.mod_eq_of_lt (show n < 32 by omega), Nat.mod_eq_of_lt h, Nat.shiftRight_add]
theorem yTo_byte (y : UInt32) {j : Nat} (h : j < 4) : (bytesU y).take (j + 1) = (bytesU y).take j ++ [(yTo y j).toUInt8] := by
  have e2 : yTo y 2 = y >>> 16 := shr8 y 8 (by decide)
  have e3 : yTo y 3 = y >>> 24 := by
    show yTo y 2 >>> 8 = _
    rw [e2]
    exact shr8 y 16 (by decide)
  have : j = 0 ∨ j = 1 ∨ j = 2 ∨ j = 3 := by omega
  rcases this with rfl | rfl | rfl | rfl
  · rfl
  · rfl
  · rw [e2]
    rfl
  · rw [e3]
    rfl
theorem yTo_next (y : UInt32) (j : Nat) : ((yTo y j).toNat : Int) / 256 = ((yTo y (j + 1)).toNat : Int) := by
  have := shrU (yTo y j) 8 (by decide)
  rw [show (2 : Int) ^ 8 = 256 by decide] at this
  exact this

set_option maxHeartbeats 4000000 in
set_option maxRecDepth 100000 in
theorem hashSum_calls (gh : Nat) (h : List UInt32) (rest : Value) (gone base : Nat) (l : List UInt8) (w : World) (hH : w.heap[gh]? = some (.cells (hashA h rest gone) 102 (0, 0))) (hl : h.length = 8) (hR : RestIs w base rest l) (hle : l.length ≤ 64) (hg : gone ≤ 140737488351232) :
    Calls Tryz.prog 45 #[.pointer (some ⟨gh, 0, none⟩)] w fun e w' => e = .returned (.string ⟨((blkU h l (gone + l.length) true).flatMap bytesU).toArray⟩) ∧ Below w.heap.size w w' := by
  go_enter Tryz.func45, Tryz.ntmps45
  go_wp2_with fail
  refine (copy_calls gh h rest gone base l _ hH hl hR hle).mono ?_
  rintro e' w1 ⟨g, g2, rfl, h1, h2, h3, h4, h5⟩
  obtain ⟨n, hn⟩ : ∃ n, n = l.length := ⟨_, rfl⟩
  rw [← hn] at h3 hle
  have HN := Aside0.mk hn
  have HG := Aside0.mk h1
  have HG2 := Aside0.mk h2
  have HC := Aside0.mk h3
  have HL := Aside0.mk h4
  have HB := Aside0.mk h5
  have z8 := (blk_cell h3 8).trans (hashA_rest hl _ _)
  clear hH hR h1 h2 h3 h4 h5 hn
  obtain ⟨g3, c3, w3, hpad, hp2, hp3, C, hp4⟩ := pad_bytes HN.out hle HL.out
  have HP := Aside0.mk hpad
  have HP2 := Aside0.mk hp2
  have HP3 := Aside0.mk hp3
  have HP4 := Aside0.mk hp4
  clear hpad hp2 hp3 hp4
  go_wp2_with (at_builtin; refine Lib.wpList_append_run _ rfl (.tmp 22) (.tmp 24) 54 3 rfl _ _ rfl rfl _ _ HP.out ?_; simp only [Act.put, List.setIfInBounds_toArray, List.set_cons_zero, List.set_cons_succ])
  refine (take_calls g g g3 0 c3 h _ gone n l true _ (blk_below HC.out HP3.out) hl (Nat.le_refl _) HP2.out ?hne (by omega) hle).mono ?_
  case hne =>
    intro e
    have h1 := blk_below HC.out HP3.out
    obtain ⟨C, h2⟩ : ∃ C, w3.heap[g3]? = some (.cells C 5 (0, 0)) := ⟨C, HP4.out⟩
    rw [e, h1] at h2
    injection h2 with h2
    injection h2 with _ h3 _
    exact absurd h3 (by decide)
  rintro e' w4 ⟨⟨rv, rfl⟩, h1, h2, h3⟩
  obtain ⟨x0, x1, x2, x3, x4, x5, x6, x7, hx⟩ : ∃ x0 x1 x2 x3 x4 x5 x6 x7, blkU h l (gone + n) true = [x0, x1, x2, x3, x4, x5, x6, x7] := ⟨_, _, _, _, _, _, _, _, rfl⟩
  have HX := Aside0.mk hx
  rw [hx] at h1
  have HC4 := Aside0.mk h1
  have HB4 := Aside0.mk ((HB.out.trans (HP3.out.mono HB.out.size)).trans (h2.mono HG.out))
  have HGL := Aside0.mk (blk_lt h1)
  clear hx h1 h2 h3 HC HL HB HP HP2 HP3 HP4 z8
  have HC5 := Aside0.mk (blk_alloc HC4.out (.cells #[.pointer none, .slice none 0 0] 60))
  have HB5 := Aside0.mk (below_alloc HB4.out (.cells #[.pointer none, .slice none 0 0] 60))
  have HBd := Aside0.mk (Bld.new w4)
  have z0 := blk_cell HC5.out 0
  have z1 := blk_cell HC5.out 1
  have z2 := blk_cell HC5.out 2
  have z3 := blk_cell HC5.out 3
  have z4 := blk_cell HC5.out 4
  have z5 := blk_cell HC5.out 5
  have z6 := blk_cell HC5.out 6
  have z7 := blk_cell HC5.out 7
  simp only [hashA, cellU, List.map_cons, List.map_nil, List.cons_append, List.nil_append, List.getElem?_toArray, List.getElem?_cons_zero, List.getElem?_cons_succ] at z0 z1 z2 z3 z4 z5 z6 z7
  go_wp2_with fail
  clear z0 z1 z2 z3 z4 z5 z6 z7 HC5 HC4 HB4
  have HLB := Aside0.mk (show w.heap.size ≤ w4.heap.size from Nat.le_trans HG.out (Nat.le_of_lt HGL.out))
  generalize w4.alloc (.cells #[.pointer none, .slice none 0 0] 60) = w5 at *
  obtain ⟨gb, hgb⟩ : ∃ g, g = w4.heap.size := ⟨_, rfl⟩
  rw [← hgb] at HBd HLB
  rw [← hgb]
  clear hgb HGL
  obtain ⟨H, hH⟩ : ∃ H, H = [x0, x1, x2, x3, x4, x5, x6, x7] := ⟨_, rfl⟩
  have HHH := Aside0.mk hH
  go_loopg [32] 8 (fun gk v32 wx => ∃ (i : Nat), v32 = .int .i64 (i : Int) ∧ i ≤ 8 ∧ Aside0 (8 - i ≤ gk) ∧ Aside0 (Bld wx gb ((H.take i).flatMap bytesU)) ∧ Aside0 (Below w.heap.size w wx))
  case atStart => exact ⟨0, by rfl, by omega, ⟨by omega⟩, HBd, HB5⟩
  case round =>
    clear HBd HB5
    obtain ⟨i, rfl, hi, HGK, HD, HB⟩ := hrel
    by_cases hlt : i < 8
    · have hb8 : decide ((i : Int) < 8) = true := decide_eq_true (by omega)
      have hidx : ∀ w, (Instr.index 100 (.agg #[.int .u32 (x0.toNat : Int), .int .u32 (x1.toNat : Int), .int .u32 (x2.toNat : Int), .int .u32 (x3.toNat : Int), .int .u32 (x4.toNat : Int), .int .u32 (x5.toNat : Int), .int .u32 (x6.toNat : Int), .int .u32 (x7.toNat : Int)]) (.int .i64 (i : Int))).run Tryz.prog w = .ok (.int .u32 ((getU H i).toNat : Int)) w := by
        rw [hH]
        have : i = 0 ∨ i = 1 ∨ i = 2 ∨ i = 3 ∨ i = 4 ∨ i = 5 ∨ i = 6 ∨ i = 7 := by omega
        rcases this with rfl | rfl | rfl | rfl | rfl | rfl | rfl | rfl <;> (intro w; kernel_rfl)
      have htk : (H.take (i + 1)).flatMap bytesU = (H.take i).flatMap bytesU ++ bytesU (getU H i) := by
        have hl8 : H.length = 8 := by rw [hH]; rfl
        rw [List.take_add_one, List.flatMap_append, List.getElem?_eq_getElem (by omega)]
        unfold getU
        rw [List.getD_eq_getElem?_getD, List.getElem?_eq_getElem (by omega)]
        simp
      have hll : ((H.take i).flatMap bytesU).length ≤ 32 := by
        have : ∀ q : List UInt32, (q.flatMap bytesU).length = 4 * q.length := by
          intro q
          induction q with
          | nil => rfl
          | cons x q ih => rw [List.flatMap_cons, List.length_append, ih, List.length_cons]; show 4 + _ = _; omega
        rw [this, List.length_take]
        omega
      have HTK := Aside0.mk htk
      clear htk hH
      generalize getU H i = y at *
      generalize (H.take i).flatMap bytesU = pre at *
      go_wp2_with fail
      go_loopg [7, 35] 4 (fun gk v7 v35 wx => ∃ (j : Nat), v35 = .int .i64 (j : Int) ∧ v7 = .int .u32 ((yTo y j).toNat : Int) ∧ j ≤ 4 ∧ Aside0 (4 - j ≤ gk) ∧ Aside0 (Bld wx gb (pre ++ (bytesU y).take j)) ∧ Aside0 (Below w.heap.size w wx))
      case atStart => exact ⟨0, by rfl, by rfl, by omega, ⟨by omega⟩, ⟨by rw [List.take_zero, List.append_nil]; exact HD.out⟩, HB⟩
      case round =>
        clear HD HB
        obtain ⟨j, rfl, rfl, hj, HGJ, HD, HB⟩ := hrel
        by_cases hlt4 : j < 4
        · have hb4 : decide ((j : Int) < 4) = true := decide_eq_true (by omega)
          have hby := yTo_byte y hlt4
          have hsh := yTo_next y j
          have hbt : (bytesU y).take (j + 1) = (bytesU y).take j ++ [(yTo y j).toUInt8] := hby
          have HBT := Aside0.mk hbt
          clear hby hbt hidx
          obtain ⟨y', hy'⟩ : ∃ q, q = yTo y (j + 1) := ⟨_, rfl⟩
          rw [← hy'] at hsh
          have HSH := Aside0.mk hsh
          have HY := Aside0.mk hy'
          clear hsh hy'
          generalize yTo y j = z at *
          have hz := u_lt z
          have hc0 : (0 : Int) ≤ (z.toNat : Int) % 256 := by omega
          have hc1 : (z.toNat : Int) % 256 < 256 := by omega
          go_wp2_with fail
          refine (writeByte gb _ ((z.toNat : Int) % 256) _ hc0 hc1 HD.out (by rw [List.length_append, List.length_take]; show _ + min j 4 + 1 ≤ _; omega)).mono ?_
          rintro e' w6 ⟨rfl, h1, h2⟩
          rw [byteU, List.append_assoc, ← HBT.out] at h1
          have HD2 := Aside0.mk h1
          have HB2 := Aside0.mk (HB.out.trans (h2.mono HLB.out))
          clear h1 h2 HD HB
          go_wp2_with fail
          rw [HSH.out]
          go_roundg (4 - (j + 1))
          case measure => have := HGJ.out; omega
          case rel => exact ⟨j + 1, by go_num, by rw [HY.out], by omega, ⟨by omega⟩, HD2, HB2⟩
        · have hj4 : j = 4 := by omega
          subst hj4
          have hb4 : decide (((4 : Nat) : Int) < 4) = false := by decide
          have HD2 := Aside0.mk (show Bld wr gb ((H.take (i + 1)).flatMap bytesU) by
            rw [HTK.out]
            exact HD.out)
          clear HD hidx
          go_wp2_with fail
          go_roundg (8 - (i + 1))
          case measure => have := HGK.out; omega
          case rel => exact ⟨i + 1, by go_num, by omega, ⟨by omega⟩, HD2, HB⟩
    · have hi8 : i = 8 := by omega
      subst hi8
      have hb8 : decide (((8 : Nat) : Int) < 8) = false := by decide
      clear hH
      go_wp2_with fail
      refine (builderString gb _ _ HD.out).mono ?_
      rintro e' w6 ⟨rfl, hb⟩
      have HB2 := Aside0.mk (HB.out.trans (hb.mono HLB.out))
      clear hb HB
      go_wp2_with fail
      go_ret
      refine ⟨?_, HB2.out⟩
      rw [← HN.out, HX.out, HHH.out]
      rfl

set_option maxHeartbeats 4000000 in
set_option maxRecDepth 100000 in
theorem sum_calls (s : ByteArray) (w : World) (hs : s.size ≤ 140737488351232) :
    Calls Tryz.prog 22 #[.string s] w fun e w' => e = .returned (.string ⟨(blakeL s.data.toList).toArray⟩) ∧ Below w.heap.size w w' := by
  go_enter Tryz.func22, Tryz.ntmps22
  go_wp2_with fail
  refine (new_calls _).mono ?_
  rintro e' w1 ⟨g, rfl, h1, h2, h3⟩
  have H1 := Aside0.mk h1
  have H2 := Aside0.mk h2
  have H3 := Aside0.mk h3
  clear h1 h2 h3
  go_wp2_with fail
  refine (add_calls g g s _ H2.out (Nat.le_refl _) hs).mono ?_
  rintro e' w2 ⟨⟨rv, rfl⟩, rest, h1, h2, h3, h4⟩
  have H4 := Aside0.mk h1
  have H5 := Aside0.mk h2
  have H6 := Aside0.mk (H3.out.trans (h3.mono H1.out))
  clear h1 h2 h3 h4
  go_wp2_with fail
  have hlen : (s.data.toList.drop (64 * ahead s.size)).length = s.size - 64 * ahead s.size := by rw [List.length_drop, ← Lib.size_eq]
  have hah : s.size - 64 * ahead s.size ≤ 64 := by unfold ahead; omega
  have hah2 : 64 * ahead s.size ≤ s.size := by unfold ahead; omega
  refine (hashSum_calls g _ rest _ _ _ _ H4.out (hTo_length _ _) H5.out (by rw [hlen]; exact hah) (by omega)).mono ?_
  rintro e' w3 ⟨rfl, hb⟩
  have H7 := Aside0.mk (below_step H6.out hb)
  clear hb
  go_wp2_with fail
  go_ret
  have e : blakeL s.data.toList = (blkU (hTo s.data.toList (ahead s.size)) (List.drop (64 * ahead s.size) s.data.toList) s.size true).flatMap bytesU := by
    unfold blakeL sumU
    rw [← Lib.size_eq]
  rw [e]
  exact ⟨rfl, H7.out⟩
end Go.Proofs.YtnnkenbcdepafaaGreatDoor.K

namespace Go.Proofs.YtnnkenbcdepafaaGreatDoor.H
open Go.RowKit Go.Proofs.YtnnkenbcdepafaaGreatDoorW.PrintWords Go.Proofs.YtnnkenbcdepafaaGreatDoorW.PrintLast Go.Proofs.YtnnkenbcdepafaaGreatDoorW.PrintMore Go.Proofs.YtnnkenbcdepafaaGreatDoor.B
set_option linter.unusedVariables false
set_option linter.unusedSimpArgs false

theorem nameB_size {b : ByteArray} {i k d r s m : Int} (h : placeB b i k d r s m = true) : (nameB b i k d r s m).size ≤ 1000 := by
  have hp := placeB_iff.1 h
  have hs := nums_small h
  have hl := nameTo_length b.data.toList (nums i k d r s m) (fun j => by have := hs j; omega) 6
  have e : b.data.toList.length = b.size := (Lib.size_eq b).symm
  show (nameTo b.data.toList (nums i k d r s m) 6).toArray.size ≤ 1000
  rw [List.size_toArray]
  omega
def idOf (b : ByteArray) (k d r s m : Int) : ByteArray := ⟨((K.blakeL (nameB b 0 k d r s m).data.toList).take 16).toArray⟩
def idB (b : ByteArray) (i k d r s m : Int) : ByteArray × Int := if placeB b i k d r s m = true then (idOf b k d r s m, 0) else (⟨#[]⟩, 1)
def slice_ID.f (b : ByteArray) (i k d r s m : Int) : Option (ByteArray × Int) :=
  if (-9223372036854775808 ≤ i ∧ i ≤ 9223372036854775807) ∧ (-9223372036854775808 ≤ k ∧ k ≤ 9223372036854775807) ∧ b.size ≤ 9223372036854775807 then some (idB b i k d r s m) else none
theorem place_zero {b : ByteArray} {i k d r s m : Int} (h : placeB b i k d r s m = true) : placeB b 0 k d r s m = true := by
  have h1 := placeB_iff.1 h
  exact placeB_iff.2 ⟨h1.1, ⟨h1.2.1.1, h1.2.1.2.1, h1.2.1.2.2.1, h1.2.1.2.2.2.1, Int.le_refl _, by have := shapeB_iff.1 h1.1; omega⟩, h1.2.2⟩

set_option maxHeartbeats 4000000 in
set_option maxRecDepth 100000 in
theorem id_no (b : ByteArray) (i k d r s m : Int) (w : World) (h : slice_Place.f b i k d r s m = some false) :
    Calls Tryz.prog 10 #[.agg #[.string b, .int .i64 i, .int .i64 k, .int .i64 d, .int .i64 r, .int .i64 s, .int .i64 m]] w fun e w' => e = .returned (.tuple #[.string ⟨#[]⟩, .int .i64 1]) ∧ Below w.heap.size w w' := by
  have HB := Aside0.mk (Below.refl w.heap.size w)
  have HPl := Aside0.mk h
  clear h
  go_enter Tryz.func10, Tryz.ntmps10
  go_wp2_with (first | ((with_reducible refine gate_dst (N := 1) rfl ?_); refine box_event ?hg (N := 1) ?hd (cs := #[.string b, .int .i64 i, .int .i64 k, .int .i64 d, .int .i64 r, .int .i64 s, .int .i64 m]) (t := 25) ?hr ?_; (case hd => rfl); (case hg => rfl); (case hr => first | (go_simp; done) | (go_simp; rfl)); intro gb hg w1 hbox hb; have HB1 := Aside0.mk (below_step HB.out hb); clear HB; have HB := HB1; clear HB1; have BK := Aside0.mk hbox; clear hb hbox hg; have hcw1_0 : w1.cell? ⟨gb, 0, none⟩ = some (.string b) := (blk_cell BK.out 0).trans rfl; have hcw1_1 : w1.cell? ⟨gb, 1, none⟩ = some (.int .i64 i) := (blk_cell BK.out 1).trans rfl; have hcw1_2 : w1.cell? ⟨gb, 2, none⟩ = some (.int .i64 k) := (blk_cell BK.out 2).trans rfl; have hcw1_3 : w1.cell? ⟨gb, 3, none⟩ = some (.int .i64 d) := (blk_cell BK.out 3).trans rfl; have hcw1_4 : w1.cell? ⟨gb, 4, none⟩ = some (.int .i64 r) := (blk_cell BK.out 4).trans rfl; have hcw1_5 : w1.cell? ⟨gb, 5, none⟩ = some (.int .i64 s) := (blk_cell BK.out 5).trans rfl; have hcw1_6 : w1.cell? ⟨gb, 6, none⟩ = some (.int .i64 m) := (blk_cell BK.out 6).trans rfl; have hgb := blk_lt BK.out))
  refine (slice_Place.calls b i k d r s m _ _ HPl.out).mono ?_
  rintro e' w2 ⟨rfl, hb⟩
  have HB2 := Aside0.mk (below_step HB.out hb)
  clear hb
  go_wp2_with fail
  go_ret2
  exact ⟨rfl, HB2.out⟩

set_option maxHeartbeats 4000000 in
set_option maxRecDepth 100000 in
theorem id_yes (b : ByteArray) (i k d r s m : Int) (w : World) (h : slice_Place.f b i k d r s m = some true) (hp : placeB b i k d r s m = true) (hL : LaidW w) :
    Calls Tryz.prog 10 #[.agg #[.string b, .int .i64 i, .int .i64 k, .int .i64 d, .int .i64 r, .int .i64 s, .int .i64 m]] w fun e w' => e = .returned (.tuple #[.string (idOf b k d r s m), .int .i64 0]) ∧ Below w.heap.size w w' := by
  have HB := Aside0.mk (Below.refl w.heap.size w)
  have HPl := Aside0.mk h
  have HLAID := Aside0.mk hL
  have hn : slice_Name.f b 0 k d r s m = some (nameB b 0 k d r s m, 0) := by
    have h2 := placeB_iff.1 hp
    have h3 := shapeB_iff.1 h2.1
    unfold slice_Name.f
    rw [if_pos (by omega), if_pos (place_zero hp)]
  have HN := Aside0.mk hn
  have hsz := nameB_size (place_zero hp)
  clear h hL hn
  have hw := Nat.le_refl w.heap.size
  go_enter Tryz.func10, Tryz.ntmps10
  go_wp2_with (first | ((with_reducible refine gate_dst (N := 1) rfl ?_); refine box_event ?hg (N := 1) ?hd (cs := #[.string b, .int .i64 i, .int .i64 k, .int .i64 d, .int .i64 r, .int .i64 s, .int .i64 m]) (t := 25) ?hr ?_; (case hd => rfl); (case hg => rfl); (case hr => first | (go_simp; done) | (go_simp; rfl)); intro gb hg w1 hbox hb; have HB1 := Aside0.mk (below_step HB.out hb); have GB := Aside0.mk (show w.heap.size ≤ gb by rw [hg]; exact below_size HB.out); clear HB; have HB := HB1; clear HB1; have BK := Aside0.mk hbox; clear hb hbox hg; have hcw1_0 : w1.cell? ⟨gb, 0, none⟩ = some (.string b) := (blk_cell BK.out 0).trans rfl; have hcw1_1 : w1.cell? ⟨gb, 1, none⟩ = some (.int .i64 i) := (blk_cell BK.out 1).trans rfl; have hcw1_2 : w1.cell? ⟨gb, 2, none⟩ = some (.int .i64 k) := (blk_cell BK.out 2).trans rfl; have hcw1_3 : w1.cell? ⟨gb, 3, none⟩ = some (.int .i64 d) := (blk_cell BK.out 3).trans rfl; have hcw1_4 : w1.cell? ⟨gb, 4, none⟩ = some (.int .i64 r) := (blk_cell BK.out 4).trans rfl; have hcw1_5 : w1.cell? ⟨gb, 5, none⟩ = some (.int .i64 s) := (blk_cell BK.out 5).trans rfl; have hcw1_6 : w1.cell? ⟨gb, 6, none⟩ = some (.int .i64 m) := (blk_cell BK.out 6).trans rfl; have hgb := blk_lt BK.out))
  refine (slice_Place.calls b i k d r s m _ _ HPl.out).mono ?_
  rintro e' w2 ⟨rfl, hb⟩
  have HB2 := Aside0.mk (below_step HB.out hb)
  have BK2 := Aside0.mk (blk_below BK.out hb)
  clear hb hcw1_0 hcw1_1 hcw1_2 hcw1_3 hcw1_4 hcw1_5 hcw1_6 HB BK
  have y0 := blk_cell BK2.out 0
  have y1 := blk_cell BK2.out 1
  have y2 := blk_cell BK2.out 2
  have y3 := blk_cell BK2.out 3
  have y4 := blk_cell BK2.out 4
  have y5 := blk_cell BK2.out 5
  have y6 := blk_cell BK2.out 6
  simp only [List.getElem?_toArray, List.getElem?_cons_zero, List.getElem?_cons_succ] at y0 y1 y2 y3 y4 y5 y6
  have f1 := blk_frozen BK2.out 1
  go_wp2_with fail
  refine (slice_Name.calls b 0 k d r s m _ _ _ HN.out (LaidW.of HLAID (HB2.out.setCell (p := ⟨gb, 1, none⟩) GB.out _))).mono ?_
  rintro e' w3 ⟨rfl, hb⟩
  have HB3 := Aside0.mk (below_step (HB2.out.setCell (p := ⟨gb, 1, none⟩) GB.out (.int .i64 0)) hb)
  clear hb y0 y1 y2 y3 y4 y5 y6 f1
  go_wp2_with fail
  refine (K.sum_calls (nameB b 0 k d r s m) _ (by omega)).mono ?_
  rintro e' w4 ⟨rfl, hb⟩
  have HB4 := Aside0.mk (below_step HB3.out hb)
  clear hb
  have hbl := K.blakeL_length (nameB b 0 k d r s m).data.toList
  have HO := Aside0.mk (show idOf b k d r s m = ⟨((K.blakeL (nameB b 0 k d r s m).data.toList).take 16).toArray⟩ from rfl)
  generalize K.blakeL (nameB b 0 k d r s m).data.toList = L at *
  have hls : (16 : Int) ≤ ((⟨L.toArray⟩ : ByteArray).size : Int) := by
    show (16 : Int) ≤ ((L.toArray.size : Nat) : Int)
    rw [List.size_toArray]
    omega
  go_wp2_with fail
  have eO : idOf b k d r s m = (⟨L.toArray⟩ : ByteArray).extract 0 16 := by
    rw [HO.out]
    refine ba_ext ?_
    rw [Lib.extract_data]
    simp
  rw [eO]
  go_ret2
  exact ⟨rfl, HB4.out⟩

theorem slice_ID.calls (b : ByteArray) (i k d r s m : Int) (r1 : ByteArray) (r2 : Int) (w : World) (h : slice_ID.f b i k d r s m = some (r1, r2)) (hL : LaidW w := by exact LaidW.of ‹Aside0 (LaidW _)› (by repeat (first | (with_reducible first | exact (‹Aside0 (Below _ _ _)›).out | apply below_alloc | apply pw_below_drewN | apply below_drew1 | refine below_set ?_ (Aside0.out (by assumption))) | exact (‹Aside0 (Below _ _ _)›).out))) :
    Calls Tryz.prog 10 #[.agg #[.string b, .int .i64 i, .int .i64 k, .int .i64 d, .int .i64 r, .int .i64 s, .int .i64 m]] w fun e w' => e = .returned (.tuple #[.string r1, .int .i64 r2]) ∧ Below w.heap.size w w' := by
  unfold slice_ID.f at h
  split at h
  · rename_i hw
    have hf : slice_Place.f b i k d r s m = some (placeB b i k d r s m) := by
      unfold slice_Place.f
      rw [if_pos hw]
    unfold idB at h
    by_cases hp : placeB b i k d r s m = true
    · rw [if_pos hp] at h
      obtain ⟨rfl, rfl⟩ := Prod.mk.inj (Option.some.inj h)
      rw [hp] at hf
      exact id_yes b i k d r s m w hf hp hL
    · rw [if_neg hp] at h
      obtain ⟨rfl, rfl⟩ := Prod.mk.inj (Option.some.inj h)
      rw [show placeB b i k d r s m = false from by simpa using hp] at hf
      exact id_no b i k d r s m w hf
  · cases h
end Go.Proofs.YtnnkenbcdepafaaGreatDoor.H
