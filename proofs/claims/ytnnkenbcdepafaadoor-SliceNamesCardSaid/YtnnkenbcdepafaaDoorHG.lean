/- A name read by reckoning: whether it is a place's name, by a function that can be run; over lists, no program in sight. -/
import Derived.Test.YtnnkenbcdepafaaDoorHQ
namespace Go.Proofs.YtnnkenbcdepafaaDoor.H
set_option linter.unusedVariables false

/-- The numbers that are left, from letter j on. -/
def readFrom (rest : ByteArray) (j : Nat) : Nat → Option (List Int)
  | 0 => some []
  | n + 1 => if endOf rest j < 1 then none else match atoiL (rest.extract 1 (endOf rest j).toNat).data.toList with
    | none => none
    | some v => (readFrom (rest.extract (endOf rest j).toNat rest.size) (j + 1) n).map (v :: ·)
theorem readFrom_good (f : Nat → Int) (hf : ∀ j, 0 ≤ f j ∧ f j ≤ 512) : ∀ (n j : Nat) (rest : ByteArray), j + n = 6 → rest.data.toList = tailFrom f j → readFrom rest j n = some ((List.range n).map fun q => f (j + q))
  | 0, j, rest, _, _ => rfl
  | n + 1, j, rest, hj, h => by
    obtain ⟨e1, e2, e3⟩ := round_tail f hf rest j (by omega) h
    have ih := readFrom_good f hf n (j + 1) (rest.extract (endOf rest j).toNat rest.size) (by omega) (by rw [e1, Int.toNat_natCast]; exact e3)
    unfold readFrom
    rw [if_neg (by rw [e1]; omega), ih]
    rw [e1, Int.toNat_natCast, e2, atoi_itoa _ (hf j).1 (hf j).2]
    simp only [Option.map_some, List.range_succ_eq_map, List.map_cons, List.map_map, Nat.add_zero]
    congr 2
    refine List.map_congr_left fun q _ => ?_
    simp only [Function.comp]
    congr 1
    omega
/-- A name as a place's numbers make it, each small. -/
def nameD (b : List UInt8) (d r s m k i : Int) : List UInt8 := b ++ 46 :: 100 :: (dd d.toNat ++ 114 :: (dd r.toNat ++ 115 :: (dd s.toNat ++ 109 :: (dd m.toNat ++ 107 :: (dd k.toNat ++ 118 :: dd i.toNat)))))
def goodC (name : ByteArray) : Bool :=
  match readFrom (cutDot name).2.1 0 6 with
  | some [d, r, s, m, k, i] => placeB (cutDot name).1 i k d r s m && decide (nameD (cutDot name).1.data.toList d r s m k i = name.data.toList)
  | _ => false
theorem goodC_of {name b : ByteArray} {i k d r s m : Int} (h : Good name b i k d r s m) : goodC name = true := by
  obtain ⟨h1, h2, _⟩ := inv_start name (fun _ => 0) b i k d r s m h
  have hs := nums_small h.1
  unfold goodC
  rw [readFrom_good _ hs 6 0 _ rfl h2]
  have e : (List.range 6).map (fun q => nums i k d r s m (0 + q)) = [d, r, s, m, k, i] := rfl
  rw [e]
  simp only
  have hn := h.2
  subst h1
  rw [h.1, Bool.true_and, decide_eq_true_eq]
  have e0 := itoa_dd _ (hs 0).1 (hs 0).2
  have e1 := itoa_dd _ (hs 1).1 (hs 1).2
  have e2 := itoa_dd _ (hs 2).1 (hs 2).2
  have e3 := itoa_dd _ (hs 3).1 (hs 3).2
  have e4 := itoa_dd _ (hs 4).1 (hs 4).2
  have e5 := itoa_dd _ (hs 5).1 (hs 5).2
  have hl : name.data.toList = nameTo (cutDot name).1.data.toList (nums i k d r s m) 6 := by
    have := congrArg (fun x : ByteArray => x.data.toList) hn
    exact this.symm
  rw [hl, nameTo_tail]
  unfold tailFrom nameD
  rw [e0, e1, e2, e3, e4, e5]
  rfl
theorem parse_bad {name : ByteArray} (h : goodC name = false) : parseB name = (⟨#[]⟩, 0, 0, 0, 0, 0, 0, 4) := parseB_none fun b i k d r s m hg => by
  rw [goodC_of hg] at h
  cases h
end Go.Proofs.YtnnkenbcdepafaaDoor.H
