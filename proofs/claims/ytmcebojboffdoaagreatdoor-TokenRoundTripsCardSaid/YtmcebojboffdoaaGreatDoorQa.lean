/-
  Plain words on bytes and on numerals. Conditions: none.
-/
import Derived.Test.YtmcebojboffdoaaGreatDoorPlain
import Derived.Lib.ParseIntB
import Derived.Lib.IndexMore
namespace Go.Proofs.YtmcebojboffdoaaGreatDoor.P
set_option linter.unusedVariables false
set_option linter.unusedSimpArgs false
open Go.RowKit Go.Proofs.YtmcebojboffdoaaGreatDoorW.PrintWords
/-! ### bytes -/
abbrev bl (s : ByteArray) : List UInt8 := s.data.toList
abbrev mkb (l : List UInt8) : ByteArray := ⟨l.toArray⟩
@[simp] theorem bl_mkb (l : List UInt8) : bl (mkb l) = l := rfl
@[simp] theorem mkb_bl (s : ByteArray) : mkb (bl s) = s := by
  obtain ⟨⟨l⟩⟩ := s
  rfl
theorem bl_inj {s t : ByteArray} (h : bl s = bl t) : s = t := by rw [← mkb_bl s, ← mkb_bl t, h]
@[simp] theorem bl_len (s : ByteArray) : (bl s).length = s.size := rfl
@[simp] theorem mkb_size (l : List UInt8) : (mkb l).size = l.length := rfl
theorem toList_bl (s : ByteArray) : s.toList = bl s := ByteArray.toList_eq s
theorem bl_extract (s : ByteArray) (a b : Nat) : bl (s.extract a b) = ((bl s).drop a).take (b - a) := by
  show (s.extract a b).data.toList = _
  simp [bl]
theorem bl_end (s : ByteArray) (a : Nat) : bl (s.extract a s.size) = (bl s).drop a := by
  rw [bl_extract, List.take_of_length_le]
  simp
theorem bl_head (s : ByteArray) (b : Nat) : bl (s.extract 0 b) = (bl s).take b := by
  rw [bl_extract]
  simp
theorem bl_app (s t : ByteArray) : bl (s ++ t) = bl s ++ bl t := by
  show (s ++ t).data.toList = _
  simp [bl]
def at0 (l : List UInt8) (i : Nat) : Int := ((l.getD i 0).toNat : Int)
theorem bt_bl (s : ByteArray) (i : Nat) : bt s (i : Int) = at0 (bl s) i := by
  unfold bt at0
  by_cases h : i < s.size
  · rw [dif_pos (show ((i : Int)).toNat < s.size from h)]
    have h' : i < (bl s).length := h
    rw [List.getD_eq_getElem?_getD, List.getElem?_eq_getElem h']
    rfl
  · rw [dif_neg (show ¬ ((i : Int)).toNat < s.size from h), List.getD_eq_getElem?_getD, List.getElem?_eq_none (by rw [bl_len]; omega)]
    rfl
theorem bt_int (s : ByteArray) (i : Int) (h : 0 ≤ i) : bt s i = at0 (bl s) i.toNat := by
  obtain ⟨n, rfl⟩ := Int.eq_ofNat_of_zero_le h
  exact bt_bl s n
theorem at0_cons (b : UInt8) (l : List UInt8) : at0 (b :: l) 0 = (b.toNat : Int) := rfl
theorem at0_drop (l : List UInt8) (i j : Nat) : at0 (l.drop i) j = at0 l (i + j) := by
  unfold at0
  rw [List.getD_eq_getElem?_getD, List.getD_eq_getElem?_getD, List.getElem?_drop]
theorem wrap_in {x : Int} (h0 : -9223372036854775808 ≤ x) (h1 : x ≤ 9223372036854775807) : wrap64 x = x := by
  unfold wrap64
  omega
/-! ### what is asked of a byte -/
def dig (b : UInt8) : Bool := isDig (b.toNat : Int)
def low (b : UInt8) : Bool := isLow (b.toNat : Int)
def nam (b : UInt8) : Bool := isNam (b.toNat : Int)
def num (b : UInt8) : Bool := isNum (b.toNat : Int)
def lin (b : UInt8) : Bool := isLine (b.toNat : Int)
theorem plen_digit (s : ByteArray) : plen isDig s = ((bl s).takeWhile dig).length := rfl
theorem plen_name (s : ByteArray) : plen isNam s = ((bl s).takeWhile nam).length := rfl
theorem plen_num (s : ByteArray) : plen isNum s = ((bl s).takeWhile num).length := rfl
theorem plen_line (s : ByteArray) : plen isLine s = ((bl s).takeWhile lin).length := rfl
theorem take_tw {α : Type} (p : α → Bool) : ∀ l : List α, l.take (l.takeWhile p).length = l.takeWhile p
  | [] => rfl
  | a :: l => by
    rw [List.takeWhile_cons]
    split
    · simp [take_tw p l]
    · simp
theorem drop_tw {α : Type} (p : α → Bool) : ∀ l : List α, l.drop (l.takeWhile p).length = l.dropWhile p
  | [] => rfl
  | a :: l => by
    rw [List.takeWhile_cons, List.dropWhile_cons]
    split
    · simp [drop_tw p l]
    · simp
theorem tw_le {α : Type} (p : α → Bool) (l : List α) : (l.takeWhile p).length ≤ l.length := (List.takeWhile_sublist p).length_le
theorem tw_all {α : Type} (p : α → Bool) : ∀ l : List α, (l.takeWhile p).all p = true
  | [] => rfl
  | a :: l => by
    rw [List.takeWhile_cons]
    split
    · rename_i h; simp [h, tw_all p l]
    · rfl
theorem tw_eq_of_all {α : Type} (p : α → Bool) : ∀ l : List α, l.all p = true → l.takeWhile p = l
  | [], _ => rfl
  | a :: l, h => by
    simp only [List.all_cons, Bool.and_eq_true] at h
    rw [List.takeWhile_cons, if_pos h.1, tw_eq_of_all p l h.2]
theorem tw_eq_iff {α : Type} (p : α → Bool) (l : List α) : l.takeWhile p = l ↔ l.all p = true :=
  ⟨fun h => h ▸ tw_all p l, tw_eq_of_all p l⟩
/-- Behind what satisfies a condition stands what does not, or nothing. -/
theorem tw_app {α : Type} (p : α → Bool) (a r : List α) (ha : a.all p = true) (hr : ∀ x, r.head? = some x → p x = false) : (a ++ r).takeWhile p = a := by
  induction a with
  | nil =>
    cases r with
    | nil => rfl
    | cons x r => rw [List.nil_append, List.takeWhile_cons, if_neg (by simp [hr x rfl])]
  | cons b a ih =>
    simp only [List.all_cons, Bool.and_eq_true] at ha
    rw [List.cons_append, List.takeWhile_cons, if_pos ha.1, ih ha.2]
/-! ### numerals -/
def valA (a : Nat) (l : List UInt8) : Nat := l.foldl (fun a b => a * 10 + (b.toNat - 48)) a
def val (l : List UInt8) : Nat := valA 0 l
theorem valA_nil (a : Nat) : valA a [] = a := rfl
theorem valA_cons (a : Nat) (b : UInt8) (l : List UInt8) : valA a (b :: l) = valA (a * 10 + (b.toNat - 48)) l := by simp only [valA, List.foldl_cons]
theorem valA_app (a : Nat) (l r : List UInt8) : valA a (l ++ r) = valA (valA a l) r := by simp [valA]
theorem valA_eq (l : List UInt8) : ∀ a, valA a l = a * 10 ^ l.length + val l := by
  induction l with
  | nil =>
    intro a
    show a = a * 1 + 0
    rw [Nat.mul_one, Nat.add_zero]
  | cons b l ih =>
    intro a
    have e1 : val (b :: l) = (0 * 10 + (b.toNat - 48)) * 10 ^ l.length + val l := ih _
    rw [valA_cons, ih, e1, List.length_cons, Nat.pow_succ]
    generalize 10 ^ l.length = p
    generalize val l = v
    generalize b.toNat - 48 = d
    have e2 : a * (p * 10) = a * 10 * p := by rw [Nat.mul_comm p 10, Nat.mul_assoc]
    rw [e2, Nat.add_mul, Nat.zero_mul, Nat.zero_add, Nat.add_assoc]
theorem valA_ge (l : List UInt8) (a : Nat) : a ≤ valA a l := by
  rw [valA_eq]
  have h1 : 0 < 10 ^ l.length := Nat.pow_pos (by omega)
  generalize 10 ^ l.length = p at *
  have := Nat.le_mul_of_pos_right a h1
  omega
theorem dig_range {b : UInt8} (h : dig b = true) : 48 ≤ b.toNat ∧ b.toNat ≤ 57 := by
  unfold dig isDig at h
  simp only [Bool.and_eq_true, decide_eq_true_eq] at h
  omega
theorem dig_iff (b : UInt8) : dig b = true ↔ 48 ≤ b.toNat ∧ b.toNat ≤ 57 := by
  unfold dig isDig
  simp only [Bool.and_eq_true, decide_eq_true_eq]
  omega
theorem val_lt (l : List UInt8) (h : l.all dig = true) : val l < 10 ^ l.length := by
  induction l with
  | nil => simp [val, valA]
  | cons b l ih =>
    simp only [List.all_cons, Bool.and_eq_true] at h
    have h1 := ih h.2
    have h2 := dig_range h.1
    have e1 : val (b :: l) = (0 * 10 + (b.toNat - 48)) * 10 ^ l.length + val l := valA_eq l _
    rw [e1, List.length_cons, Nat.pow_succ]
    generalize 10 ^ l.length = p at *
    have h3 : (0 * 10 + (b.toNat - 48)) ≤ 9 := by omega
    have := Nat.mul_le_mul_right p h3
    omega
theorem val_cons (b : UInt8) (l : List UInt8) : val (b :: l) = (b.toNat - 48) * 10 ^ l.length + val l := by
  have e1 : val (b :: l) = (0 * 10 + (b.toNat - 48)) * 10 ^ l.length + val l := valA_eq l _
  rw [e1, Nat.zero_mul, Nat.zero_add]
/-- Digits, not empty, without leading zeros. -/
def intL (l : List UInt8) : Bool := !l.isEmpty && l.all dig && (l.length == 1 || l.head? != some 48)
theorem intL_all {l : List UInt8} (h : intL l = true) : l.all dig = true := by
  unfold intL at h
  simp only [Bool.and_eq_true] at h
  exact h.1.2
theorem intL_ne {l : List UInt8} (h : intL l = true) : l ≠ [] := by
  rintro rfl
  simp [intL] at h
theorem val_ge (l : List UInt8) (h : intL l = true) (h2 : 2 ≤ l.length) : 10 ^ (l.length - 1) ≤ val l := by
  cases l with
  | nil => simp at h2
  | cons b l =>
    have hd := intL_all h
    simp only [List.all_cons, Bool.and_eq_true] at hd
    have hb := dig_range hd.1
    have hne : b ≠ 48 := by
      rintro rfl
      simp only [List.length_cons] at h2
      have : l ≠ [] := by rintro rfl; simp at h2
      simp [intL, this] at h
    have : 49 ≤ b.toNat := by
      rcases Nat.lt_or_ge 48 b.toNat with h3 | h3
      · omega
      · exact absurd (UInt8.toNat_inj.1 (show b.toNat = (48 : UInt8).toNat by simp; omega)) hne
    rw [val_cons, List.length_cons, Nat.add_sub_cancel]
    have h4 : 1 ≤ b.toNat - 48 := by omega
    generalize 10 ^ l.length = p at *
    have := Nat.mul_le_mul_right p h4
    omega
/-! ### the library's numerals -/
theorem parseUintM_dig (l : List UInt8) (h : l.all dig = true) : ∀ acc, acc ≤ 18446744073709551615 → Lib.parseUintM 18446744073709551615 acc l = if valA acc l ≤ 18446744073709551615 then .ok (valA acc l) else .range := by
  induction l with
  | nil => intro acc ha; rw [valA_nil, if_pos ha]; rfl
  | cons b l ih =>
    intro acc ha
    simp only [List.all_cons, Bool.and_eq_true] at h
    have hb := dig_range h.1
    have hge := valA_ge l (acc * 10 + (b.toNat - 48))
    rw [valA_cons]
    unfold Lib.parseUintM
    rw [if_pos hb]
    by_cases h1 : 1844674407370955162 ≤ acc
    · rw [if_pos h1, if_neg (by omega)]
    · rw [if_neg h1]
      by_cases h2 : 18446744073709551615 < acc * 10 + (b.toNat - 48)
      · rw [if_pos h2, if_neg (by omega)]
      · rw [if_neg h2, ih h.2 _ (by omega)]
theorem parseInt_dig (l : List UInt8) (h : l.all dig = true) (hne : l ≠ []) : Lib.parseIntB 64 l = if val l < 9223372036854775808 then .ok (val l : Int) else .range := by
  cases l with
  | nil => exact absurd rfl hne
  | cons b l =>
    have hb : 48 ≤ b.toNat ∧ b.toNat ≤ 57 := by
      simp only [List.all_cons, Bool.and_eq_true] at h
      exact dig_range h.1
    unfold Lib.parseIntB
    simp only []
    rw [if_neg (by omega)]
    unfold Lib.parseUintB
    rw [if_neg (by simp), show (2 ^ 64 - 1 : Nat) = 18446744073709551615 from rfl, parseUintM_dig _ h 0 (by omega)]
    have e : valA 0 (b :: l) = val (b :: l) := rfl
    rw [e]
    by_cases h1 : val (b :: l) ≤ 18446744073709551615
    · rw [if_pos h1]
      simp only []
      by_cases h2 : val (b :: l) < 9223372036854775808
      · rw [if_pos h2, if_neg (by rintro ⟨_, h3⟩; have : (2 ^ (64 - 1) : Nat) = 9223372036854775808 := rfl; omega), if_neg (by rintro ⟨h3, _⟩; omega), if_neg (by omega)]
      · rw [if_neg h2, if_pos ⟨by omega, by show 9223372036854775808 ≤ _; omega⟩]
    · rw [if_neg h1]
      simp only []
      rw [if_neg (by omega)]
theorem parseUint10_dig (l : List UInt8) (h : l.all dig = true) : ∀ acc, valA acc l < 18446744073709551616 → Lib.parseUint10 acc l = .ok (valA acc l) := by
  induction l with
  | nil => intro acc _; rfl
  | cons b l ih =>
    intro acc ha
    simp only [List.all_cons, Bool.and_eq_true] at h
    have hb := dig_range h.1
    rw [valA_cons] at ha ⊢
    have hge := valA_ge l (acc * 10 + (b.toNat - 48))
    unfold Lib.parseUint10
    rw [if_pos hb, if_neg (by omega), if_neg (by omega), ih h.2 _ ha]
theorem atoi_dig (l : List UInt8) (h : l.all dig = true) (hne : l ≠ []) (hv : val l < 9223372036854775808) : Lib.atoiAll l = .ok (val l : Int) := by
  cases l with
  | nil => exact absurd rfl hne
  | cons b l =>
    have hb : 48 ≤ b.toNat ∧ b.toNat ≤ 57 := by
      simp only [List.all_cons, Bool.and_eq_true] at h
      exact dig_range h.1
    unfold Lib.atoiAll
    simp only []
    rw [if_neg (by omega)]
    unfold Lib.parseMag
    have e : valA 0 (b :: l) = val (b :: l) := rfl
    rw [if_neg (by simp), parseUint10_dig _ h 0 (by rw [e]; omega), e]
    simp only []
    rw [if_neg (by omega), if_neg (by omega), if_neg (by omega)]
end Go.Proofs.YtmcebojboffdoaaGreatDoor.P
