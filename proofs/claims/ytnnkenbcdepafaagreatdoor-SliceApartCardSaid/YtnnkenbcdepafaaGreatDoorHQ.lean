/- Names read back: what a name says is told by its letters and digits alone. Over lists, no program in sight. -/
import Derived.Test.YtnnkenbcdepafaaGreatDoorHS
import Derived.Lib.IndexLaws
import Derived.Lib.IndexBytes
namespace Go.Proofs.YtnnkenbcdepafaaGreatDoor.H
set_option linter.unusedVariables false

def atoiL (l : List UInt8) : Option Int := match Lib.atoiAll l with | .ok v => some v | _ => none

/-- A small number's digits. -/
def dd (n : Nat) : List UInt8 := if n < 10 then [UInt8.ofNat (48 + n)] else if n < 100 then [UInt8.ofNat (48 + n / 10), UInt8.ofNat (48 + n % 10)] else [UInt8.ofNat (48 + n / 100), UInt8.ofNat (48 + n / 10 % 10), UInt8.ofNat (48 + n % 10)]
theorem decDigits_dd (n : Nat) (h : n < 1000) : Lib.decDigits n = dd n := by
  unfold dd
  by_cases h1 : n < 10
  · rw [if_pos h1, Lib.decDigits_one h1]
  · rw [if_neg h1]
    by_cases h2 : n < 100
    · rw [if_pos h2, Lib.decDigits_two h1 h2]
    · rw [if_neg h2, Lib.decDigits, dif_neg h1]
      by_cases h3 : n / 10 < 10
      · omega
      · rw [Lib.decDigits_two h3 (by omega)]
        have e : n / 10 / 10 = n / 100 := by omega
        rw [e]
        rfl
theorem dd_back : ∀ n : Fin 513, atoiL (dd n.val) = some (n.val : Int) := by decide +kernel
theorem dd_digits : ∀ n : Fin 513, (dd n.val).all (fun c => decide (48 ≤ c.toNat) && decide (c.toNat ≤ 57)) = true := by decide +kernel
theorem dd_ne : ∀ n : Fin 513, (dd n.val).isEmpty = false := by decide +kernel

theorem atoiL_range (l : List UInt8) (n : Int) (h : atoiL l = some n) : -9223372036854775808 ≤ n ∧ n ≤ 9223372036854775807 := by
  unfold atoiL at h
  split at h
  · rename_i v hv
    obtain rfl := Option.some.inj h
    unfold Lib.atoiAll at hv
    split at hv
    · cases hv
    · simp only at hv
      split at hv
      · cases hv
      · cases hv
      · rename_i u _
        split at hv
        · cases hv
        · rename_i h1
          split at hv
          · cases hv
          · rename_i h2
            injection hv with hv
            subst hv
            split
            · rename_i h3
              have : ¬ 9223372036854775808 < u := fun x => h2 ⟨h3, x⟩
              omega
            · rename_i h3
              have : ¬ 9223372036854775808 ≤ u := fun x => h1 ⟨h3, x⟩
              omega
  · cases h

theorem itoa_dd (n : Int) (h0 : 0 ≤ n) (h1 : n ≤ 512) : Lib.itoa n = dd n.toNat := by
  unfold Lib.itoa
  rw [if_neg (by omega), decDigits_dd _ (by omega)]
theorem atoi_itoa (n : Int) (h0 : 0 ≤ n) (h1 : n ≤ 512) : atoiL (Lib.itoa n) = some n := by
  rw [itoa_dd n h0 h1]
  have := dd_back ⟨n.toNat, by omega⟩
  simp only at this
  rw [this, Int.toNat_of_nonneg h0]
theorem itoa_digit (n : Int) (h0 : 0 ≤ n) (h1 : n ≤ 512) (c : UInt8) (hc : c ∈ Lib.itoa n) : 48 ≤ c.toNat ∧ c.toNat ≤ 57 := by
  rw [itoa_dd n h0 h1] at hc
  have := List.all_eq_true.1 (dd_digits ⟨n.toNat, by omega⟩) c hc
  simpa using this
theorem itoa_pos (n : Int) (h0 : 0 ≤ n) (h1 : n ≤ 512) : 1 ≤ (Lib.itoa n).length := by
  rw [itoa_dd n h0 h1]
  have := dd_ne ⟨n.toNat, by omega⟩
  simp only at this
  cases hq : dd n.toNat with
  | nil => rw [hq] at this; cases this
  | cons _ _ => simp

/-- A name from its letter j on. -/
def tailFrom (f : Nat → Int) (j : Nat) : List UInt8 :=
  match j with
  | 0 => letter 0 :: (Lib.itoa (f 0) ++ (letter 1 :: (Lib.itoa (f 1) ++ (letter 2 :: (Lib.itoa (f 2) ++ (letter 3 :: (Lib.itoa (f 3) ++ (letter 4 :: (Lib.itoa (f 4) ++ (letter 5 :: Lib.itoa (f 5)))))))))))
  | 1 => letter 1 :: (Lib.itoa (f 1) ++ (letter 2 :: (Lib.itoa (f 2) ++ (letter 3 :: (Lib.itoa (f 3) ++ (letter 4 :: (Lib.itoa (f 4) ++ (letter 5 :: Lib.itoa (f 5)))))))))
  | 2 => letter 2 :: (Lib.itoa (f 2) ++ (letter 3 :: (Lib.itoa (f 3) ++ (letter 4 :: (Lib.itoa (f 4) ++ (letter 5 :: Lib.itoa (f 5)))))))
  | 3 => letter 3 :: (Lib.itoa (f 3) ++ (letter 4 :: (Lib.itoa (f 4) ++ (letter 5 :: Lib.itoa (f 5)))))
  | 4 => letter 4 :: (Lib.itoa (f 4) ++ (letter 5 :: Lib.itoa (f 5)))
  | 5 => letter 5 :: Lib.itoa (f 5)
  | _ => []
theorem tailFrom_step (f : Nat → Int) (j : Nat) (hj : j < 6) : tailFrom f j = letter j :: (Lib.itoa (f j) ++ tailFrom f (j + 1)) := by
  match j, hj with
  | 0, _ => rfl
  | 1, _ => rfl
  | 2, _ => rfl
  | 3, _ => rfl
  | 4, _ => rfl
  | 5, _ => simp [tailFrom]
theorem tailFrom_head (f : Nat → Int) (j : Nat) (hj : j < 6) : ∃ r, tailFrom f j = letter j :: r := ⟨_, tailFrom_step f j hj⟩
theorem nameTo_tail (b : List UInt8) (f : Nat → Int) : nameTo b f 6 = b ++ 46 :: tailFrom f 0 := by
  simp [nameTo, tailFrom]
theorem letter_apart (j : Nat) (hj : j < 5) : letter j ≠ letter (j + 1) := by
  match j, hj with
  | 0, _ => decide
  | 1, _ => decide
  | 2, _ => decide
  | 3, _ => decide
  | 4, _ => decide
theorem letter_big (j : Nat) : 100 ≤ (letter j).toNat := by
  unfold letter
  split <;> decide

theorem indexByte_behind (l : List UInt8) (c : UInt8) (r : List UInt8) (h : ∀ x ∈ l, x ≠ c) : Lib.indexByte (l ++ c :: r) c = l.length := by
  induction l with
  | nil => simp [Lib.indexByte]
  | cons x l ih =>
    have h1 := ih (fun y hy => h y (List.mem_cons_of_mem _ hy))
    have hx : (x == c) = false := beq_eq_false_iff_ne.2 (h x List.mem_cons_self)
    rw [List.cons_append, Lib.indexByte, hx, h1]
    have : ((l.length : Int) == -1) = false := beq_eq_false_iff_ne.2 (by omega)
    simp [this]

/-- A name is a place's that may be. -/
def Good (name : ByteArray) (b : ByteArray) (i k d r s m : Int) : Prop := placeB b i k d r s m = true ∧ nameB b i k d r s m = name

theorem nums_small {b : ByteArray} {i k d r s m : Int} (h : placeB b i k d r s m = true) (j : Nat) : 0 ≤ nums i k d r s m j ∧ nums i k d r s m j ≤ 512 := by
  have hq := placeB_iff.1 h
  have hs := shapeB_iff.1 hq.1
  have hp := hq.2.1
  unfold nums
  split <;> omega

/-- Where the number at the front of what is left ends. -/
def endOf (rest : ByteArray) (j : Nat) : Int := if j < 5 then Lib.indexByte rest.data.toList (letter (j + 1)) else rest.size

theorem round_tail (f : Nat → Int) (hf : ∀ j, 0 ≤ f j ∧ f j ≤ 512) (rest : ByteArray) (j : Nat) (hj : j < 6) (h : rest.data.toList = tailFrom f j) :
    endOf rest j = ((1 + (Lib.itoa (f j)).length : Nat) : Int) ∧ (rest.extract 1 (1 + (Lib.itoa (f j)).length)).data.toList = Lib.itoa (f j) ∧ (rest.extract (1 + (Lib.itoa (f j)).length) rest.size).data.toList = tailFrom f (j + 1) := by
  have hst := tailFrom_step f j hj
  refine ⟨?_, ?_, ?_⟩
  · unfold endOf
    split
    · rename_i h5
      obtain ⟨r, hr⟩ := tailFrom_head f (j + 1) (by omega)
      rw [h, hst, hr, ← List.cons_append, indexByte_behind]
      · simp; omega
      · intro x hx
        rcases List.mem_cons.1 hx with rfl | hx
        · exact letter_apart j h5
        · intro e
          have h1 := itoa_digit (f j) (hf j).1 (hf j).2 x hx
          have h2 := letter_big (j + 1)
          rw [e] at h1
          omega
    · have : j = 5 := by omega
      subst this
      have hl : rest.size = (tailFrom f 5).length := by rw [← h, ← Lib.size_eq]
      rw [hl, hst]
      simp [tailFrom]
      omega
  · rw [Lib.extract_data, h, hst]
    simp
  · rw [Lib.extract_to_end, h, hst]
    rw [Nat.add_comm, List.drop_succ_cons, List.drop_left]

/-- What holds as a name is read: of every place whose name it is, the base, what is left, and the numbers read so far. -/
def Inv (name base rest : ByteArray) (l : Nat → Int) (j : Nat) : Prop :=
  ∀ b i k d r s m, Good name b i k d r s m → b = base ∧ rest.data.toList = tailFrom (nums i k d r s m) j ∧ ∀ q, q < j → l q = nums i k d r s m q

/-- The name's base, and what stands behind its dot. -/
def cutDot (s : ByteArray) : ByteArray × ByteArray × Bool :=
  if Lib.indexByte s.data.toList 46 < 0 then (s, ⟨#[]⟩, false) else (s.extract 0 (Lib.indexByte s.data.toList 46).toNat, s.extract ((Lib.indexByte s.data.toList 46).toNat + 1) s.size, true)

theorem ba_ext {a b : ByteArray} (h : a.data.toList = b.data.toList) : a = b := ByteArray.ext (Array.ext' h)

theorem inv_start (name : ByteArray) (l : Nat → Int) : Inv name (cutDot name).1 (cutDot name).2.1 l 0 := by
  intro b i k d r s m ⟨hp, hn⟩
  have hok := (placeB_iff.1 hp).2.2
  have hnl : name.data.toList = b.data.toList ++ 46 :: tailFrom (nums i k d r s m) 0 := by
    rw [← hn, ← nameTo_tail]
    rfl
  have hix : Lib.indexByte name.data.toList 46 = (b.data.toList.length : Int) := by
    rw [hnl, indexByte_behind]
    intro x hx e
    have := List.all_eq_true.1 hok x hx
    rw [e] at this
    exact absurd this (by decide)
  unfold cutDot
  rw [hix, if_neg (by omega), Int.toNat_natCast]
  refine ⟨ba_ext ?_, ?_, fun q hq => absurd hq (Nat.not_lt_zero _)⟩
  · rw [Lib.extract_data, hnl]
    simp
  · rw [Lib.extract_to_end, hnl, ← List.drop_drop, List.drop_left]
    rfl

theorem inv_end {name base rest : ByteArray} {l : Nat → Int} {j : Nat} (h : Inv name base rest l j) (hj : j < 6) (he : endOf rest j < 1) : ∀ b i k d r s m, ¬ Good name b i k d r s m := by
  intro b i k d r s m hg
  obtain ⟨_, hr, _⟩ := h b i k d r s m hg
  have := (round_tail _ (nums_small hg.1) rest j hj hr).1
  omega
theorem inv_atoi {name base rest : ByteArray} {l : Nat → Int} {j : Nat} (h : Inv name base rest l j) (hj : j < 6) (he : atoiL (rest.extract 1 (endOf rest j).toNat).data.toList = none) : ∀ b i k d r s m, ¬ Good name b i k d r s m := by
  intro b i k d r s m hg
  obtain ⟨_, hr, _⟩ := h b i k d r s m hg
  obtain ⟨h1, h2, _⟩ := round_tail _ (nums_small hg.1) rest j hj hr
  have hs := nums_small hg.1 j
  rw [h1, Int.toNat_natCast, h2, atoi_itoa _ hs.1 hs.2] at he
  cases he
theorem inv_step {name base rest : ByteArray} {l l' : Nat → Int} {j : Nat} (n : Int) (h : Inv name base rest l j) (hj : j < 6) (he : atoiL (rest.extract 1 (endOf rest j).toNat).data.toList = some n)
    (hl : l' j = n) (hl' : ∀ q, q < j → l' q = l q) : Inv name base (rest.extract (endOf rest j).toNat rest.size) l' (j + 1) := by
  intro b i k d r s m hg
  obtain ⟨h0, hr, hq⟩ := h b i k d r s m hg
  obtain ⟨h1, h2, h3⟩ := round_tail _ (nums_small hg.1) rest j hj hr
  have hs := nums_small hg.1 j
  rw [h1, Int.toNat_natCast] at he ⊢
  rw [h2, atoi_itoa _ hs.1 hs.2] at he
  refine ⟨h0, h3, fun q hlt => ?_⟩
  by_cases e : q = j
  · subst e
    rw [hl, Option.some.inj he]
  · rw [hl' q (by omega), hq q (by omega)]
theorem inv_last {name base rest : ByteArray} {l : Nat → Int} (h : Inv name base rest l 6) {b : ByteArray} {i k d r s m : Int} (hg : Good name b i k d r s m) :
    b = base ∧ d = l 0 ∧ r = l 1 ∧ s = l 2 ∧ m = l 3 ∧ k = l 4 ∧ i = l 5 := by
  obtain ⟨h0, _, hq⟩ := h b i k d r s m hg
  exact ⟨h0, (hq 0 (by omega)).symm, (hq 1 (by omega)).symm, (hq 2 (by omega)).symm, (hq 3 (by omega)).symm, (hq 4 (by omega)).symm, (hq 5 (by omega)).symm⟩

open Classical in
/-- Parse's answer: the place whose name it is, or that there is none. -/
noncomputable def parseB (name : ByteArray) : ByteArray × Int × Int × Int × Int × Int × Int × Int :=
  if h : ∃ p : ByteArray × Int × Int × Int × Int × Int × Int, Good name p.1 p.2.1 p.2.2.1 p.2.2.2.1 p.2.2.2.2.1 p.2.2.2.2.2.1 p.2.2.2.2.2.2 then
    ((Classical.choose h).1, (Classical.choose h).2.1, (Classical.choose h).2.2.1, (Classical.choose h).2.2.2.1, (Classical.choose h).2.2.2.2.1, (Classical.choose h).2.2.2.2.2.1, (Classical.choose h).2.2.2.2.2.2, 0)
  else (⟨#[]⟩, 0, 0, 0, 0, 0, 0, 4)
theorem parseB_none {name : ByteArray} (h : ∀ b i k d r s m, ¬ Good name b i k d r s m) : parseB name = (⟨#[]⟩, 0, 0, 0, 0, 0, 0, 4) := by
  unfold parseB
  rw [dif_neg]
  rintro ⟨p, hp⟩
  exact h _ _ _ _ _ _ _ hp
/-- The places of a name are one. -/
theorem good_unique {name : ByteArray} {b b' : ByteArray} {i k d r s m i' k' d' r' s' m' : Int} (h : Good name b i k d r s m) (h' : Good name b' i' k' d' r' s' m') :
    b' = b ∧ i' = i ∧ k' = k ∧ d' = d ∧ r' = r ∧ s' = s ∧ m' = m := by
  -- read the name by the first place's own numbers
  have hI : ∀ j, j ≤ 6 → ∃ rest, Inv name (cutDot name).1 rest (nums i k d r s m) j := by
    intro j
    induction j with
    | zero => intro _; exact ⟨_, inv_start name _⟩
    | succ j ih =>
      intro hj
      obtain ⟨rest, hr⟩ := ih (by omega)
      obtain ⟨h1, h2, h3⟩ := hr _ _ _ _ _ _ _ h
      obtain ⟨e1, e2, _⟩ := round_tail _ (nums_small h.1) rest j (by omega) h2
      have hs := nums_small h.1 j
      exact ⟨_, inv_step (nums i k d r s m j) hr (by omega) (by rw [e1, Int.toNat_natCast, e2, atoi_itoa _ hs.1 hs.2]) rfl (fun _ _ => rfl)⟩
  obtain ⟨rest, hr⟩ := hI 6 (Nat.le_refl _)
  obtain ⟨a0, a1, a2, a3, a4, a5, a6⟩ := inv_last hr h'
  obtain ⟨b0, b1, b2, b3, b4, b5, b6⟩ := inv_last hr h
  exact ⟨a0.trans b0.symm, a6.trans b6.symm, a5.trans b5.symm, a1.trans b1.symm, a2.trans b2.symm, a3.trans b3.symm, a4.trans b4.symm⟩
theorem parseB_some {name : ByteArray} {b : ByteArray} {i k d r s m : Int} (h : Good name b i k d r s m) : parseB name = (b, i, k, d, r, s, m, 0) := by
  have hx : ∃ p : ByteArray × Int × Int × Int × Int × Int × Int, Good name p.1 p.2.1 p.2.2.1 p.2.2.2.1 p.2.2.2.2.1 p.2.2.2.2.2.1 p.2.2.2.2.2.2 := ⟨(b, i, k, d, r, s, m), h⟩
  unfold parseB
  rw [dif_pos hx]
  obtain ⟨e0, e1, e2, e3, e4, e5, e6⟩ := good_unique h (Classical.choose_spec hx)
  rw [e0, e1, e2, e3, e4, e5, e6]
end Go.Proofs.YtnnkenbcdepafaaGreatDoor.H
