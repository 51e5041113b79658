/- The library's functions that package slice calls, each as one contract over any world: what it answers, and that nothing that lay there is changed. Conditions: the world's listed tables read as the program's text lays them (LaidW), where a number's digits or an error of the library are made. -/
import Derived.Test.YtnnkenbcdepafaaGreatDoorSh
import Derived.Test.YtnnkenbcdepafaaGreatDoorB
import Derived.Lib.AppendIntMem
import Derived.Lib.QuietBelow
import Derived.Shelf.GgClosure.Gives
namespace Go.Proofs.YtnnkenbcdepafaaGreatDoor.H
open Go.RowKit Go.Proofs.YtnnkenbcdepafaaGreatDoorW.PrintWords Go.Proofs.YtnnkenbcdepafaaGreatDoorW.PrintLast
set_option linter.unusedVariables false

/-- What the listed variables hold, as far as it is used: the table of powers of ten; the two errors of strconv are values of some type. -/
structure LaidW (w : World) : Prop where
  tab : Lib.TabIs Tryz.prog w "internal/strconv.uint64pow10" .u64 Lib.pow10Tab
  esyn : ∃ te pe, w.cell? ⟨1, 0, none⟩ = some (.iface te pe)
  eran : ∃ te pe, w.cell? ⟨2, 0, none⟩ = some (.iface te pe)

theorem LaidW.below {w W : World} (h : LaidW w) (hb : Below w.heap.size w W) : LaidW W := by
  obtain ⟨t, ⟨a, b, hs⟩, ⟨c, d, hr⟩⟩ := h
  exact ⟨Lib.tabBelow_of_tabIs t W hb, ⟨a, b, pw_cell_below hb hs⟩, ⟨c, d, pw_cell_below hb hr⟩⟩
theorem LaidW.of {w W : World} (h : Aside0 (LaidW w)) (hb : Below w.heap.size w W) : LaidW W := h.out.below hb

/-! ### strings.Builder in a block of its own: b, all its rows behind it -/
def Bld (w : World) (b : Nat) (l : List UInt8) : Prop := Lib.IsBuilderF 60 5 b b (Lib.byteCells l) w

theorem Bld.new (w : World) : Bld (w.alloc (.cells #[.pointer none, .slice none 0 0] 60)) w.heap.size [] := by
  refine .inl ⟨Nat.le_refl _, .slice none 0 0, heap_alloc_new w _, ?_, ?_⟩
  · exact World.ownsRowF_of (own_nil _ _ _ _)
  · simp [Value.ownBlock]
theorem Bld.lt {w : World} {b : Nat} {l : List UInt8} (h : Bld w b l) : b < w.heap.size := by
  rcases h with h | h
  · exact h.lt
  · exact h.lt

def lays167_ren : Go.Shelf.Ren := ⟨fun | 167 => 29 | n => Tryz.lays105_ren.f n, Tryz.lays105_ren.t, Tryz.lays105_ren.g⟩
theorem lays167 : Go.Proofs.Lays.n167 Tryz.prog lays167_ren := {
  mixed := by kernel_rfl
  f167 := Tryz.func29.trans (congrArg some (by kernel_rfl))
  f240 := Tryz.func49.trans (congrArg some (by kernel_rfl))
  f276 := Tryz.func76.trans (congrArg some (by kernel_rfl))
  t0 := Tryz.lays105.t0
  a0 := Tryz.lays105.a0
  z0 := Tryz.lays105.z0
  v0 := Tryz.lays105.v0
  t4 := Tryz.lays105.t4
  a4 := Tryz.lays105.a4
  z4 := Tryz.lays105.z4
  v4 := Tryz.lays105.v4
  t5 := Tryz.lays105.t5
  a5 := Tryz.lays105.a5
  z5 := Tryz.lays105.z5
  v5 := Tryz.lays105.v5
  t9 := Tryz.lays105.t9
  a9 := Tryz.lays105.a9
  z9 := Tryz.lays105.z9
  v9 := Tryz.lays105.v9
  t20 := Tryz.lays105.t20
  a20 := Tryz.lays105.a20
  z20 := Tryz.lays105.z20
  v20 := Tryz.lays105.v20
  t37 := Tryz.lays105.t37
  a37 := Tryz.lays105.a37
  z37 := Tryz.lays105.z37
  v37 := Tryz.lays105.v37
  t70 := Tryz.lays105.t70
  a70 := Tryz.lays105.a70
  z70 := Tryz.lays105.z70
  v70 := Tryz.lays105.v70
  t72 := Tryz.lays105.t72
  a72 := Tryz.lays105.a72
  z72 := Tryz.lays105.z72
  v72 := Tryz.lays105.v72
  t75 := Tryz.lays105.t75
  a75 := Tryz.lays105.a75
  z75 := Tryz.lays105.z75
  v75 := Tryz.lays105.v75
  t164 := Tryz.lays105.t164
  a164 := Tryz.lays105.a164
  z164 := Tryz.lays105.z164
  v164 := Tryz.lays105.v164 }

theorem extra167 : Builder.Extra Tryz.prog lays167_ren := {
  sizeBuilder := by kernel_rfl
  liesBuilder := by kernel_rfl
  t5 := Tryz.underlying5
  a5 := Tryz.isAgg5
  z5 := Tryz.sizeOf5
  v5 := Tryz.zeroValue5
  infoByte := by kernel_rfl
  cellsByte := by kernel_rfl
  sizeByte := by kernel_rfl
  neB5 := by decide }

theorem byteCells_snoc (l : List UInt8) (c : Int) (h0 : 0 ≤ c) (h1 : c < 256) : Lib.byteCells l ++ [.int .u8 c] = Lib.byteCells (l ++ [c.toNat.toUInt8]) := by
  have : ((c.toNat.toUInt8.toNat : Nat) : Int) = c := by
    rw [Nat.toUInt8, UInt8.toNat_ofNat_of_lt' (by simp [UInt8.size]; omega)]; omega
  simp [Lib.byteCells]
  omega
theorem byteCells_str (l : List UInt8) (s : ByteArray) : Lib.byteCells l ++ Lib.strCells s = Lib.byteCells (l ++ s.data.toList) := by
  simp [Lib.byteCells, Lib.strCells]

theorem writeByte (b : Nat) (l : List UInt8) (c : Int) (w : World) (h0 : 0 ≤ c) (h1 : c < 256) (h : Bld w b l) (hl : l.length + 1 ≤ 140737488355328) :
    Calls Tryz.prog 29 #[.pointer (some ⟨b, 0, none⟩), .int .u8 c] w fun e w' => e = .returned .nilIface ∧ Bld w' b (l ++ [c.toNat.toUInt8]) ∧ Below b w w' := by
  refine (Any.Builder_WriteByte_k lays167 extra167 b b (Lib.byteCells l) c w h (by rw [Lib.byteCells_length]; exact hl) (Nat.le_of_lt h.lt)).mono ?_
  rintro e w' ⟨rfl, h2, h3, _⟩
  refine ⟨rfl, .inr ?_, h3⟩
  rw [byteCells_snoc l c h0 h1] at h2
  exact h2

theorem writeString (b : Nat) (l : List UInt8) (s : ByteArray) (w : World) (h : Bld w b l) (hl : l.length + s.size ≤ 140737488355328) :
    Calls Tryz.prog 30 #[.pointer (some ⟨b, 0, none⟩), .string s] w fun e w' => e = .returned (.tuple #[.int .i64 s.size, .nilIface]) ∧ Bld w' b (l ++ s.data.toList) ∧ Below b w w' := by
  refine (Any.Builder_WriteString_f ({ Tryz.lays105 with } : Lays.n166 Tryz.prog Tryz.lays105_ren) Tryz.Builder_Extra_105 b b (Lib.byteCells l) s w h (by rw [Lib.byteCells_length]; exact hl) (Nat.le_of_lt h.lt)).mono ?_
  rintro e w' ⟨rfl, h2, h3⟩
  refine ⟨rfl, .inr ?_, h3⟩
  rw [byteCells_str] at h2
  exact h2

theorem builderLen (b : Nat) (l : List UInt8) (w : World) (h : Bld w b l) :
    Calls Tryz.prog 32 #[.pointer (some ⟨b, 0, none⟩)] w fun e w' => e = .returned (.int .i64 (l.length : Int)) ∧ w = w' := by
  refine (Tryz.Builder_Len_f b b (Lib.byteCells l) w h).mono ?_
  rintro e w' ⟨rfl, rfl⟩
  exact ⟨by rw [Lib.byteCells_length], rfl⟩

theorem builderString (b : Nat) (l : List UInt8) (w : World) (h : Bld w b l) :
    Calls Tryz.prog 33 #[.pointer (some ⟨b, 0, none⟩)] w fun e w' => e = .returned (.string ⟨l.toArray⟩) ∧ Below b w w' := by
  refine (Tryz.Builder_String_any_f b b l w h (Nat.le_of_lt h.lt)).mono ?_
  rintro e w' ⟨rfl, _, h3⟩
  exact ⟨rfl, h3⟩

/-! ### strconv -/
theorem itoa (n : Int) (w : World) (h0 : -9223372036854775808 ≤ n) (h1 : n ≤ 9223372036854775807) (hL : LaidW w) :
    Calls Tryz.prog 17 #[.int .i64 n] w fun e w' => e = .returned (.string ⟨(Lib.itoa n).toArray⟩) ∧ Below w.heap.size w w' := by
  refine (Tryz.strconv_Itoa n h0 h1 w hL.tab).mono ?_
  rintro e w' ⟨rfl, k, os, rfl⟩
  exact ⟨rfl, Lib.below_grow _ _ (Nat.le_refl _) _ _⟩

/-- What Atoi answers: a number, or none. -/
def atoiO (s : ByteArray) : Option Int := match Lib.atoiAll s.data.toList with | .ok v => some v | _ => none

/-- Its two results. -/
def AtoiSaid (s : ByteArray) (w : World) (e : Ending) (w' : World) : Prop :=
  match atoiO s with
  | some v => e = .returned (.tuple #[.int .i64 v, .nilIface]) ∧ Below w.heap.size w w'
  | none => ∃ x t p, e = .returned (.tuple #[.int .i64 x, .iface t p]) ∧ Below w.heap.size w w'

theorem atoi (s : ByteArray) (w : World) (hs : s.size ≤ 281474976710656) (hL : LaidW w) :
    Calls Tryz.prog 21 #[.string s] w (AtoiSaid s w) := by
  obtain ⟨_, ⟨a, b, hsy⟩, ⟨c, d, hr⟩⟩ := hL
  cases hq : Lib.atoiAll s.data.toList
  · rename_i v
    refine (Tryz.strconv_Atoi_ok s (by omega) v hq w).mono ?_
    rintro e w' ⟨rfl, hw⟩
    have hb : Below w.heap.size w w' := by
      rcases hw with rfl | ⟨t, rfl⟩
      · exact Below.refl _ _
      · exact bytes_below (Below.refl _ _) (Nat.le_refl _) _ _
    simp only [AtoiSaid, atoiO, hq]
    exact ⟨trivial, hb⟩
  · refine (Any.strconv_Atoi_syntax Tryz.laysC172 s hs hq _ w hsy (.inr ⟨a, b, rfl⟩)).mono ?_
    rintro e w' ⟨N, rfl, _, _, hb⟩
    simp only [AtoiSaid, atoiO, hq]
    exact ⟨_, _, _, rfl, hb⟩
  · refine (Any.strconv_Atoi_range Tryz.laysC172 s hs hq _ w hr (.inr ⟨c, d, rfl⟩)).mono ?_
    rintro e w' ⟨N, rfl, _, _, hb⟩
    simp only [AtoiSaid, atoiO, hq]
    exact ⟨_, _, _, rfl, hb⟩
end Go.Proofs.YtnnkenbcdepafaaGreatDoor.H
