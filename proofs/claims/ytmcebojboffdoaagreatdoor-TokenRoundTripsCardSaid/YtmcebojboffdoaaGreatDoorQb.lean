/-
  The percentages of the reference and of the program are the same. Conditions: none.
-/
import Derived.Test.YtmcebojboffdoaaGreatDoorQa
import Derived.Test.YtmcebojboffdoaaGreatDoorP18
import Derived.Test.YtmcebojboffdoaaGreatDoorP7
namespace Go.Proofs.YtmcebojboffdoaaGreatDoor.P
set_option linter.unusedVariables false
set_option linter.unusedSimpArgs false
open Go.RowKit Go.Proofs.YtmcebojboffdoaaGreatDoorW.PrintWords Go.Proofs.YtmcebojboffdoaaGreatDoorW.PrintLast Go.Proofs.YtmcebojboffdoaaGreatDoorW.PrintMore
theorem ref_digit (c : Int) : corebankref09_digit.f c = some (isDig c) := by
  unfold corebankref09_digit.f isDig
  by_cases h : c ≥ 48
  · rw [if_pos h, decide_eq_true h, Bool.true_and]
  · rw [if_neg h, decide_eq_false h, Bool.false_and]
theorem ref_letter (c : Int) : corebankref09_letter.f c = some (isLow c) := by
  unfold corebankref09_letter.f isLow
  by_cases h : c ≥ 97
  · rw [if_pos h, decide_eq_true h, Bool.true_and]
  · rw [if_neg h, decide_eq_false h, Bool.false_and]
theorem wsucc {i : Nat} (h : i < 9223372036854775807) : wrap64 ((i : Int) + 1) = ((i + 1 : Nat) : Int) := by
  unfold wrap64
  omega
/-! ### digits without leading zeros -/
def plainL (l : List UInt8) : Nat := if 1 < (l.takeWhile dig).length ∧ at0 l 0 = 48 then 0 else (l.takeWhile dig).length
theorem plainL_le (l : List UInt8) : plainL l ≤ l.length := by
  unfold plainL
  have := tw_le dig l
  split <;> omega
theorem dig_lt (s : ByteArray) (i : Nat) (h : i < plen isDig s) : isDig (bt s (i : Int)) = true := plen_lt isDig s i h
theorem plain_l0 (s : ByteArray) (hs : s.size ≤ 140737488351232) : ∀ d k i, i ≤ plen isDig s → plen isDig s - i = d → d < k → corebankref09_plain.l0 k s (i : Int) = some (plainL (bl s) : Int) := by
  have hp := plen_le isDig s
  have hend : (if ((plen isDig s : Nat) : Int) > 1 then (if 0 < (s.size : Int) then (if (bt s 0) = 48 then (some 0) else (some ((plen isDig s : Nat) : Int))) else (none)) else (some ((plen isDig s : Nat) : Int))) = some (plainL (bl s) : Int) := by
    have h0 : bt s 0 = at0 (bl s) 0 := bt_bl s 0
    unfold plainL
    rw [← plen_digit, h0]
    by_cases h1 : 1 < plen isDig s
    · rw [if_pos (by omega), if_pos (by omega)]
      by_cases h2 : at0 (bl s) 0 = 48
      · rw [if_pos h2, if_pos ⟨h1, h2⟩]; rfl
      · rw [if_neg h2, if_neg (fun h => h2 h.2)]
    · rw [if_neg (by omega), if_neg (fun h => h1 h.1)]
  intro d
  induction d with
  | zero =>
    intro k i hi hd hk
    obtain ⟨k, rfl⟩ : ∃ m, k = m + 1 := ⟨k - 1, by omega⟩
    obtain rfl : i = plen isDig s := by omega
    simp only [corebankref09_plain.l0]
    by_cases h1 : plen isDig s < s.size
    · rw [if_pos (by omega), if_pos (by omega), ref_digit, plen_end isDig s h1]
      simp only [Option.bind_some]
      rw [if_neg (by decide)]
      exact hend
    · rw [if_neg (by omega)]
      exact hend
  | succ d ih =>
    intro k i hi hd hk
    obtain ⟨k, rfl⟩ : ∃ m, k = m + 1 := ⟨k - 1, by omega⟩
    simp only [corebankref09_plain.l0]
    rw [if_pos (by omega), if_pos (by omega), ref_digit, dig_lt s i (by omega)]
    simp only [Option.bind_some]
    rw [if_pos trivial, wsucc (by omega)]
    exact ih k (i + 1) (by omega) (by omega) (by omega)
theorem plain_eq (s : ByteArray) (hs : s.size ≤ 140737488351232) (k : Nat) (hk : s.size < k) : corebankref09_plain.f k s = some (plainL (bl s) : Int) := by
  have := plen_le isDig s
  exact plain_l0 s hs (plen isDig s) k 0 (by omega) (by omega) (by omega)
/-! ### the form of a percentage -/
/-- A percentage: its whole part, its places. -/
structure Pct (l w p : List UInt8) : Prop where
  int : intL w = true
  dig : p.all dig = true
  len : p.length ≤ 4
  last : p ≠ [] → at0 p (p.length - 1) ≠ 48
  eq : l = w ++ (if p = [] then [37] else 46 :: p ++ [37])
def midL (l : List UInt8) : List UInt8 := (l.drop (plainL l)).take (l.length - 1 - plainL l)
def formL (l : List UInt8) : Bool :=
  if plainL l = 0 then false else if at0 l (l.length - 1) ≠ 37 then false else if midL l = [] then true
  else if (midL l).length < 2 ∨ (midL l).length > 5 ∨ at0 (midL l) 0 ≠ 46 ∨ at0 (midL l) ((midL l).length - 1) = 48 then false else ((midL l).drop 1).all dig
theorem form_l0 (m : ByteArray) (hs : m.size ≤ 140737488351232) : ∀ d k i, i ≤ m.size → m.size - i = d → d < k → corebankref09_form.l0 k m (i : Int) = some (((bl m).drop i).all dig) := by
  intro d
  induction d with
  | zero =>
    intro k i hi hd hk
    obtain ⟨k, rfl⟩ : ∃ m, k = m + 1 := ⟨k - 1, by omega⟩
    simp only [corebankref09_form.l0]
    rw [if_neg (by omega), List.drop_of_length_le (by rw [bl_len]; omega)]
    rfl
  | succ d ih =>
    intro k i hi hd hk
    obtain ⟨k, rfl⟩ : ∃ m, k = m + 1 := ⟨k - 1, by omega⟩
    simp only [corebankref09_form.l0]
    have hlt : i < (bl m).length := by rw [bl_len]; omega
    rw [if_pos (by omega), if_pos (by omega), ref_digit, List.drop_eq_getElem_cons hlt]
    simp only [Option.bind_some, List.all_cons]
    have e : isDig (bt m (i : Int)) = dig (bl m)[i] := by
      rw [bt_list m i hlt]; rfl
    rw [e]
    cases hd2 : dig (bl m)[i] with
    | true =>
      rw [if_pos rfl, wsucc (by omega), Bool.true_and]
      exact ih k (i + 1) (by omega) (by omega) (by omega)
    | false => rw [if_neg (by decide)]; rfl
theorem form_eq (s : ByteArray) (hs : s.size ≤ 140737488351232) (k : Nat) (hk : s.size + 4 < k) : corebankref09_form.f k s = some (formL (bl s)) := by
  have hle := plainL_le (bl s)
  rw [bl_len] at hle
  unfold corebankref09_form.f
  rw [plain_eq s hs k (by omega)]
  simp only [Option.bind_some]
  obtain ⟨k, rfl⟩ : ∃ m, k = m + 1 := ⟨k - 1, by omega⟩
  unfold formL
  by_cases h0 : plainL (bl s) = 0
  · rw [if_pos (by omega), if_pos h0]
    simp only [corebankref09_form.j0]
    rw [if_pos trivial]
  · have hpos : 0 < s.size := by omega
    have hw : wrap64 ((s.size : Int) - 1) = ((s.size - 1 : Nat) : Int) := by unfold wrap64; omega
    rw [if_neg (by omega), if_neg h0, hw, if_pos (by omega), if_pos (by omega)]
    simp only [corebankref09_form.j0]
    rw [bt_bl]
    rw [bl_len]
    by_cases h1 : at0 (bl s) (s.size - 1) = 37
    · have e1 : (at0 (bl s) (s.size - 1) != 37) = false := by rw [h1]; rfl
      rw [e1, if_neg (by decide), if_neg (show ¬ (at0 (bl s) (s.size - 1) ≠ 37) from fun h => h h1), if_pos (by omega)]
      by_cases h2 : plainL (bl s) ≤ s.size - 1
      · rw [hw, if_pos (by omega), if_pos (by omega)]
        simp only [Option.bind_some, Int.toNat_natCast]
        have hm : bl (s.extract (plainL (bl s)) (s.size - 1)) = midL (bl s) := by rw [bl_extract]; rfl
        have hsz : (s.extract (plainL (bl s)) (s.size - 1)).size = (midL (bl s)).length := by rw [← hm, bl_len]
        have hml : (midL (bl s)).length ≤ s.size := by
          unfold midL
          have := List.length_take_le ((bl s).length - 1 - plainL (bl s)) ((bl s).drop (plainL (bl s)))
          have e := bl_len s
          omega
        rw [toList_bl, hm, hsz]
        by_cases h3 : midL (bl s) = []
        · rw [if_pos h3, if_pos h3]
        · have hl0 : 0 < (midL (bl s)).length := List.length_pos_iff.2 h3
          rw [if_neg h3, if_neg h3]
          obtain ⟨k, rfl⟩ : ∃ m, k = m + 1 := ⟨k - 1, by omega⟩
          by_cases h4 : (midL (bl s)).length < 2
          · rw [if_pos (by omega), if_pos (.inl h4)]
            simp only [corebankref09_form.j1]; rw [if_pos trivial]
          · rw [if_neg (by omega)]
            by_cases h5 : (midL (bl s)).length > 5
            · rw [if_pos (by omega), if_pos (.inr (.inl h5))]
              simp only [corebankref09_form.j1]; rw [if_pos trivial]
            · rw [if_neg (by omega), if_pos (by omega), show ((0 : Int)) = ((0 : Nat) : Int) from rfl, bt_bl, hm]
              by_cases h6 : at0 (midL (bl s)) 0 = 46
              · have hw2 : wrap64 (((midL (bl s)).length : Int) - 1) = (((midL (bl s)).length - 1 : Nat) : Int) := by unfold wrap64; omega
                rw [if_pos h6, hw2, if_pos (by omega), if_pos (by omega), bt_bl, hm]
                simp only [corebankref09_form.j1]
                by_cases h7 : at0 (midL (bl s)) ((midL (bl s)).length - 1) = 48
                · rw [if_pos (by rw [h7]; rfl), if_pos (.inr (.inr (.inr h7)))]
                · rw [if_neg (by simpa using h7), if_neg (by rintro (h | h | h | h) <;> first | omega | exact h h6 | exact h7 h)]
                  have := form_l0 (s.extract (plainL (bl s)) (s.size - 1)) (by rw [hsz]; omega) ((midL (bl s)).length - 1) k 1 (by omega) (by omega) (by omega)
                  rw [hm] at this
                  exact this
              · rw [if_neg h6, if_pos (.inr (.inr (.inl h6)))]
                simp only [corebankref09_form.j1]; rw [if_pos trivial]
      · -- then the last byte is a digit
        exfalso
        have hf : plainL (bl s) = s.size := by omega
        have hp : plen isDig s = s.size := by
          have := plen_le isDig s
          unfold plainL at hf
          rw [← plen_digit] at hf
          split at hf <;> omega
        have := dig_lt s (s.size - 1) (by omega)
        rw [bt_bl, h1] at this
        simp [isDig] at this
    · have e1 : (at0 (bl s) (s.size - 1) != 37) = true := by simpa using h1
      rw [e1, if_pos rfl, if_pos h1]
end Go.Proofs.YtmcebojboffdoaaGreatDoor.P
