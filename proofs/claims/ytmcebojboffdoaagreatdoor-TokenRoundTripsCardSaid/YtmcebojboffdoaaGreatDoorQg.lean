/-
  The token at the beginning of a text, as a function of its bytes: what the program's and the reference's functions return. Conditions: at most 2^32 - 16 bytes.
-/
import Derived.Test.YtmcebojboffdoaaGreatDoorQd
import Derived.Test.YtmcebojboffdoaaGreatDoorQw
import Derived.Test.YtmcebojboffdoaaGreatDoorP9
import Derived.Test.YtmcebojboffdoaaGreatDoorP21
namespace Go.Proofs.YtmcebojboffdoaaGreatDoor.P
set_option linter.unusedVariables false
set_option linter.unusedSimpArgs false
open Go.RowKit Go.Proofs.YtmcebojboffdoaaGreatDoorW.PrintWords Go.Proofs.YtmcebojboffdoaaGreatDoorW.PrintLast Go.Proofs.YtmcebojboffdoaaGreatDoorW.PrintMore
/-! ### numbers -/
theorem less_iff : ∀ (a b : List UInt8), a.all dig = true → b.all dig = true → a.length = b.length → (Op.bytesLess a b = true ↔ val a < val b)
  | [], [], _, _, _ => by simp [Op.bytesLess]
  | [], y :: b, _, _, h => by simp at h
  | x :: a, [], _, _, h => by simp at h
  | x :: a, y :: b, ha, hb, hl => by
    simp only [List.all_cons, Bool.and_eq_true] at ha hb
    simp only [List.length_cons, Nat.add_right_cancel_iff] at hl
    have hx := dig_range ha.1
    have hy := dig_range hb.1
    have va := val_lt a ha.2
    have vb := val_lt b hb.2
    have ih := less_iff a b ha.2 hb.2 hl
    rw [val_cons, val_cons, ← hl]
    rw [← hl] at vb
    generalize 10 ^ a.length = q at *
    unfold Op.bytesLess
    rcases Nat.lt_trichotomy x.toNat y.toNat with h | h | h
    · have h1 : x < y := h
      have := Nat.mul_le_mul_right q (show (x.toNat - 48) + 1 ≤ y.toNat - 48 by omega)
      rw [Nat.add_mul, Nat.one_mul] at this
      rw [decide_eq_true h1, Bool.true_or]
      exact ⟨fun _ => by omega, fun _ => rfl⟩
    · have e : x = y := UInt8.toNat_inj.1 h
      subst e
      have h1 : ¬ x < x := fun g => by have : x.toNat < x.toNat := g; omega
      rw [decide_eq_false h1, Bool.false_or, beq_self_eq_true, Bool.true_and, ih]
      omega
    · have h1 : ¬ x < y := fun g => by have : x.toNat < y.toNat := g; omega
      have h2 : ¬ x = y := fun g => by rw [g] at h; omega
      have := Nat.mul_le_mul_right q (show (y.toNat - 48) + 1 ≤ x.toNat - 48 by omega)
      rw [Nat.add_mul, Nat.one_mul] at this
      rw [decide_eq_false h1, Bool.false_or, beq_eq_false_iff_ne.2 h2, Bool.false_and]
      exact ⟨fun g => Bool.noConfusion g, fun _ => by omega⟩
theorem great_eq (t : List UInt8) (h : intL t = true) : corebankref09_great.f (mkb t) = some (decide (9223372036854775808 ≤ val t)) := by
  unfold corebankref09_great.f
  rw [mkb_size]
  have hlt := val_lt t (intL_all h)
  by_cases h1 : t.length > 19
  · rw [if_pos (by omega)]
    have h2 := val_ge t h (by omega)
    have h3 : (10 : Nat) ^ 19 ≤ 10 ^ (t.length - 1) := Nat.pow_le_pow_right (by omega) (by omega)
    have e : (10 : Nat) ^ 19 = 10000000000000000000 := rfl
    rw [decide_eq_true (by omega)]
  · rw [if_neg (by omega)]
    by_cases h2 : t.length = 19
    · rw [if_pos (by omega), toList_bl, bl_mkb]
      have hm : val [57, 50, 50, 51, 51, 55, 50, 48, 51, 54, 56, 53, 52, 55, 55, 53, 56, 48, 55] = 9223372036854775807 := by decide
      have h3 := less_iff [57, 50, 50, 51, 51, 55, 50, 48, 51, 54, 56, 53, 52, 55, 55, 53, 56, 48, 55] t (by decide) (intL_all h) (by rw [h2]; rfl)
      rw [hm] at h3
      congr 1
      rw [Bool.eq_iff_iff, h3, decide_eq_true_iff]
      omega
    · rw [if_neg (by omega)]
      have h3 : (10 : Nat) ^ t.length ≤ 10 ^ 18 := Nat.pow_le_pow_right (by omega) (by omega)
      have e : (10 : Nat) ^ 18 = 1000000000000000000 := rfl
      rw [decide_eq_false (by omega)]
/-- The number of a percentage, and its error. -/
def rateF (t : List UInt8) : Int × Int := (corebankref09_Rate.f (t.length + 11) (mkb t)).getD (0, 2)
theorem rateF_eq (t : List UInt8) (ht : t.length < 4294967281) (k : Nat) (hk : t.length + 10 < k) : token_Rate.f k (mkb t) = some (rateF t) ∧ corebankref09_Rate.f k (mkb t) = some (rateF t) ∧ (formL t = true → (rateF t).2 = 0 ∨ (rateF t).2 = 1) ∧ (formL t = false → (rateF t).2 = 2) := by
  rw [rate_same (mkb t) ht k hk]
  unfold rateF
  by_cases h : ∃ w p, Pct (bl (mkb t)) w p
  · obtain ⟨w, p, hP⟩ := h
    have hs : (mkb t).size = t.length := rfl
    rw [ref_Rate (mkb t) (by omega) k hk w p hP, ref_Rate (mkb t) (by omega) (t.length + 11) (by omega) w p hP]
    refine ⟨rfl, rfl, fun _ => ?_, fun hf => ?_⟩
    · show (rateR w p).2 = 0 ∨ (rateR w p).2 = 1
      unfold rateR
      split
      · exact .inr rfl
      · exact .inl rfl
    · have := formL_of_pct hP
      rw [bl_mkb, hf] at this
      cases this
  · have hs : (mkb t).size = t.length := rfl
    rw [ref_Rate_no (mkb t) (by omega) k hk h, ref_Rate_no (mkb t) (by omega) (t.length + 11) (by omega) h]
    refine ⟨rfl, rfl, fun hf => absurd (pct_of_formL hf) h, fun _ => rfl⟩
def numL (t : List UInt8) : Int × List UInt8 × Int :=
  if intL t = true then (if val t < 9223372036854775808 then (2, t, 0) else (0, [], 6))
  else if (rateF t).2 = 0 then (3, t, 0) else if (rateF t).2 = 1 then (0, [], 6) else (0, [], 2)
theorem number_eq (t : List UInt8) (ht : t.length < 4294967281) (k : Nat) (hk : t.length + 10 < k) : token_number.f k (mkb t) = some ((numL t).1, 0, mkb (numL t).2.1, (numL t).2.2) := by
  have hs : (mkb t).size = t.length := rfl
  unfold token_number.f
  rw [tok_integer _ (by omega), bl_mkb]
  simp only [Option.bind_some]
  unfold numL
  by_cases hi : intL t = true
  · rw [if_pos hi, if_pos hi]
    unfold token_number.i
    rw [if_pos (by omega), show (mkb t).data.toList = t from rfl, parseInt_dig t (intL_all hi) (intL_ne hi)]
    by_cases hv : val t < 9223372036854775808
    · rw [if_pos hv, if_pos hv]
    · rw [if_neg hv, if_neg hv]
  · rw [if_neg hi, if_neg hi]
    obtain ⟨h1, _, _, _⟩ := rateF_eq t ht k hk
    rw [h1]
    simp only [Option.bind_some]
    unfold token_number.g
    by_cases h2 : (rateF t).2 = 0
    · rw [if_pos h2, if_pos h2]
    · rw [if_neg h2, if_neg h2]
      by_cases h3 : (rateF t).2 = 1
      · rw [if_pos h3, if_pos h3]
      · rw [if_neg h3, if_neg h3]
/-! ### marks -/
def marksL : List ByteArray := token_marks.f.getD []
def marksB : List (List UInt8) := [[61, 61], [33, 61], [60, 61], [123], [125], [40], [41], [44], [59], [58], [36], [43], [45], [42], [47], [60]]
theorem marks_map : marksL.map bl = marksB := by decide +kernel
theorem tok_marks : token_marks.f = some marksL := by
  have h : token_marks.f.isSome = true := by decide +kernel
  unfold marksL
  cases hh : token_marks.f with
  | none => rw [hh] at h; cases h
  | some l => rfl
theorem marks_len : marksL.length = 16 := by
  have := congrArg List.length marks_map
  rw [List.length_map] at this
  exact this
theorem isPrefix_eq : ∀ (m l : List UInt8), m.isPrefixOf l = (l.take m.length == m)
  | [], l => by simp
  | x :: m, [] => rfl
  | x :: m, y :: l => by
    have ih := isPrefix_eq m l
    show (x == y && m.isPrefixOf l) = ((y :: l).take (m.length + 1) == x :: m)
    rw [List.take_succ_cons, ih]
    by_cases h : x = y
    · subst h; simp
    · rw [beq_eq_false_iff_ne.2 h, Bool.false_and, eq_comm, beq_eq_false_iff_ne]
      intro g
      simp only [List.cons.injEq] at g
      exact h g.1.symm
theorem has_prefix (s m : ByteArray) : strings_HasPrefix.f s m = some ((bl m).isPrefixOf (bl s)) := by
  unfold strings_HasPrefix.f stringslite_HasPrefix.f
  by_cases h : m.size ≤ s.size
  · rw [if_pos (by omega), if_pos (by omega), if_pos (by omega)]
    simp only [Option.bind_some]
    rw [Int.toNat_natCast, toList_bl, toList_bl, bl_head, isPrefix_eq, bl_len]
  · rw [if_neg (by omega)]
    simp only [Option.bind_some]
    rw [isPrefix_eq, bl_len, List.take_of_length_le (by rw [bl_len]; omega)]
    congr 1
    rw [eq_comm, beq_eq_false_iff_ne]
    intro g
    have := congrArg List.length g
    rw [bl_len, bl_len] at this
    omega
def findM (l : List UInt8) : Option (List UInt8) := marksB.find? fun m => m.isPrefixOf l
theorem marks_l0 (s : ByteArray) (L : List ByteArray) (hL : L.length ≤ 1000) : ∀ d k i, i ≤ L.length → L.length - i = d → d < k → token_next.l0 k s L (L.length : Int) (i : Int) = some (match ((L.drop i).map bl).find? (fun m => m.isPrefixOf (bl s)) with
    | some m => (4, 0, mkb m, 0)
    | none => (0, 0, (⟨#[]⟩ : ByteArray), 2)) := by
  intro d
  induction d with
  | zero =>
    intro k i hi hd hk
    obtain ⟨k, rfl⟩ : ∃ m, k = m + 1 := ⟨k - 1, by omega⟩
    simp only [token_next.l0]
    rw [if_neg (by omega), List.drop_of_length_le (by omega)]
    rfl
  | succ d ih =>
    intro k i hi hd hk
    obtain ⟨k, rfl⟩ : ∃ m, k = m + 1 := ⟨k - 1, by omega⟩
    have hlt : i < L.length := by omega
    simp only [token_next.l0]
    rw [if_pos (by omega), if_pos (by omega), if_pos (by omega), rdOf_at _ _ _ hlt, has_prefix, List.drop_eq_getElem_cons hlt, List.map_cons, List.find?_cons]
    simp only [Option.bind_some]
    cases hb : (bl L[i]).isPrefixOf (bl s) with
    | true =>
      rw [if_pos rfl]
    | false =>
      rw [if_neg (by decide), wsucc' (by omega)]
      exact ih k (i + 1) (by omega) (by omega) (by omega)
def findC (c : UInt8) (b : Bool) : Option (List UInt8) := marksB.find? fun m => match m with
  | [x] => x == c
  | [x, y] => x == c && (y == 61 && b)
  | _ => false
def eqNext (r : List UInt8) : Bool := r.head? == some 61
theorem find_congr {α : Type} {p q : α → Bool} : ∀ {l : List α}, (∀ x ∈ l, p x = q x) → l.find? p = l.find? q
  | [], _ => rfl
  | x :: l, h => by
    rw [List.find?_cons, List.find?_cons, h x List.mem_cons_self, find_congr fun y hy => h y (List.mem_cons_of_mem _ hy)]
theorem marks_shape : ∀ m ∈ marksB, (∃ x, m = [x]) ∨ ∃ x, m = [x, 61] := by
  intro m hm
  have h : marksB.all (fun m => match m with | [_] => true | [_, y] => y == 61 | _ => false) = true := by decide
  have := List.all_eq_true.1 h m hm
  match m, this with
  | [x], _ => exact .inl ⟨x, rfl⟩
  | [x, y], h => exact .inr ⟨x, by rw [beq_iff_eq.1 h]⟩
theorem findM_cons (c : UInt8) (r : List UInt8) : findM (c :: r) = findC c (eqNext r) := by
  unfold findM findC
  refine find_congr fun m hm => ?_
  rcases marks_shape m hm with ⟨x, rfl⟩ | ⟨x, rfl⟩
  · show (x == c && ([] : List UInt8).isPrefixOf r) = (x == c)
    rw [List.isPrefixOf_nil_left, Bool.and_true]
  · show (x == c && [61].isPrefixOf r) = (x == c && ((61 : UInt8) == 61 && eqNext r))
    congr 1
    unfold eqNext
    cases r with
    | nil => rfl
    | cons y r =>
      show ((61 : UInt8) == y && ([] : List UInt8).isPrefixOf r) = ((61 : UInt8) == 61 && (some y == some 61))
      rw [List.isPrefixOf_nil_left, Bool.and_true, beq_self_eq_true, Bool.true_and]
      by_cases h : y = 61
      · subst h; rfl
      · rw [beq_eq_false_iff_ne.2 (fun g => h g.symm), eq_comm, beq_eq_false_iff_ne]
        exact fun g => h (Option.some.inj g)
def singles : List UInt8 := [123, 125, 40, 41, 44, 59, 58, 36, 43, 45, 42, 47, 60]
/-- What the reference says of a byte and whether '=' stands behind it. -/
def markC (c : UInt8) (b : Bool) : Nat := if b = true ∧ (c = 61 ∨ c = 33 ∨ c = 60) then 2 else if c ∈ singles then 1 else 0
theorem marks_same : ∀ (c : Fin 256) (b : Bool), findC (UInt8.ofNat c.val) b = match markC (UInt8.ofNat c.val) b with
    | 0 => none
    | 1 => some [UInt8.ofNat c.val]
    | _ => some [UInt8.ofNat c.val, 61] := by decide +kernel
theorem marks_same' (c : UInt8) (b : Bool) : findC c b = match markC c b with
    | 0 => none
    | 1 => some [c]
    | _ => some [c, 61] := by
  have h : c.toNat < 256 := c.toNat_lt
  have := marks_same ⟨c.toNat, h⟩ b
  rwa [show UInt8.ofNat (⟨c.toNat, h⟩ : Fin 256).val = c from UInt8.ofNat_toNat] at this
end Go.Proofs.YtmcebojboffdoaaGreatDoor.P
