/-
  Plain words on bytes: how long the beginning of a text is whose bytes satisfy a condition. Conditions: none.
-/
import Derived.Test.YtmcebojboffdoaaGreatDoorV
namespace Go.Proofs.YtmcebojboffdoaaGreatDoor.P
set_option linter.unusedVariables false
set_option linter.unusedSimpArgs false
open Go.RowKit Go.Proofs.YtmcebojboffdoaaGreatDoorW.PrintWords
/-- The number of bytes with which a text begins that satisfy a condition. -/
def plen (p : Int → Bool) (s : ByteArray) : Nat := (s.data.toList.takeWhile fun b => p (b.toNat : Int)).length
theorem plen_le (p : Int → Bool) (s : ByteArray) : plen p s ≤ s.size := by
  unfold plen
  have h := (List.takeWhile_sublist (p := fun b : UInt8 => p (b.toNat : Int)) (l := s.data.toList)).length_le
  exact h
theorem bt_list (s : ByteArray) (k : Nat) (h : k < s.data.toList.length) : bt s (k : Int) = ((s.data.toList[k]'h).toNat : Int) := by
  have h' : k < s.size := h
  unfold bt
  rw [dif_pos (show ((k : Int)).toNat < s.size from h')]
  rfl
theorem tw_lt {α : Type} (q : α → Bool) : ∀ (l : List α) (k : Nat) (h : k < (l.takeWhile q).length) (h2 : k < l.length), q (l[k]'h2) = true
  | [], k, h, _ => by simp at h
  | a :: l, k, h, h2 => by
    rw [List.takeWhile_cons] at h
    by_cases ha : q a = true
    · rw [if_pos ha] at h
      cases k with
      | zero => exact ha
      | succ k => exact tw_lt q l k (by simpa using h) (by simpa using h2)
    · rw [if_neg ha] at h
      simp at h
theorem tw_end {α : Type} (q : α → Bool) : ∀ (l : List α) (h2 : (l.takeWhile q).length < l.length), q (l[(l.takeWhile q).length]'h2) = false
  | [], h2 => by simp at h2
  | a :: l, h2 => by
    by_cases ha : q a = true
    · have e : (a :: l).takeWhile q = a :: l.takeWhile q := by rw [List.takeWhile_cons, if_pos ha]
      have h3 : (l.takeWhile q).length < l.length := by rw [e] at h2; simpa using h2
      have := tw_end q l h3
      simp only [e, List.length_cons, List.getElem_cons_succ]
      exact this
    · have e : (a :: l).takeWhile q = [] := by rw [List.takeWhile_cons, if_neg ha]
      simp only [e, List.length_nil, List.getElem_cons_zero]
      simpa using ha
theorem plen_lt (p : Int → Bool) (s : ByteArray) (k : Nat) (h : k < plen p s) : p (bt s (k : Int)) = true := by
  have h2 : k < s.data.toList.length := Nat.lt_of_lt_of_le h (plen_le p s)
  rw [bt_list s k h2]
  exact tw_lt (fun b : UInt8 => p (b.toNat : Int)) s.data.toList k h h2
theorem plen_end (p : Int → Bool) (s : ByteArray) (h : plen p s < s.size) : p (bt s (plen p s : Int)) = false := by
  rw [bt_list s (plen p s) h]
  exact tw_end (fun b : UInt8 => p (b.toNat : Int)) s.data.toList h
def isDig (c : Int) : Bool := decide (48 ≤ c) && decide (c ≤ 57)
def isLow (c : Int) : Bool := decide (97 ≤ c) && decide (c ≤ 122)
def isNam (c : Int) : Bool := isLow c || isDig c || (c == 95)
def isNum (c : Int) : Bool := isNam c || (c == 46) || (c == 37)
def isLine (c : Int) : Bool := c != 10
end Go.Proofs.YtmcebojboffdoaaGreatDoor.P
