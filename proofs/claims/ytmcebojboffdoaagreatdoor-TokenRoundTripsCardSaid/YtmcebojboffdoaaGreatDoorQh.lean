/-
  The token at the beginning of a text: the program's 'next' and the reference's 'Token' return the same. Conditions: at most 2^32 - 16 bytes.
-/
import Derived.Test.YtmcebojboffdoaaGreatDoorQg
namespace Go.Proofs.YtmcebojboffdoaaGreatDoor.P
set_option linter.unusedVariables false
set_option linter.unusedSimpArgs false
open Go.RowKit Go.Proofs.YtmcebojboffdoaaGreatDoorW.PrintWords Go.Proofs.YtmcebojboffdoaaGreatDoorW.PrintLast Go.Proofs.YtmcebojboffdoaaGreatDoorW.PrintMore
def nextL : List UInt8 → Int × List UInt8 × Int
  | [] => (0, [], 2)
  | c :: r => if low c = true then (if wordB ((c :: r).takeWhile nam) = true then (5, (c :: r).takeWhile nam, 0) else if ((c :: r).takeWhile nam).length > 16 then (0, [], 4) else (1, (c :: r).takeWhile nam, 0))
    else if dig c = true then numL ((c :: r).takeWhile num)
    else match findM (c :: r) with
      | some m => (4, m, 0)
      | none => (0, [], 2)
theorem nextL_cons (c : UInt8) (r : List UInt8) : nextL (c :: r) = (if low c = true then (if wordB ((c :: r).takeWhile nam) = true then (5, (c :: r).takeWhile nam, 0) else if ((c :: r).takeWhile nam).length > 16 then (0, [], 4) else (1, (c :: r).takeWhile nam, 0))
    else if dig c = true then numL ((c :: r).takeWhile num)
    else match findM (c :: r) with
      | some m => (4, m, 0)
      | none => (0, [], 2)) := rfl
theorem tok_letter (c : Int) : token_letter.f c = some (isLow c) := by
  unfold token_letter.f isLow
  by_cases h : c ≥ 97
  · rw [if_pos h, decide_eq_true h, Bool.true_and]
  · rw [if_neg h, decide_eq_false h, Bool.false_and]
theorem tok_digit (c : Int) : token_digit.f c = some (isDig c) := by
  unfold token_digit.f isDig
  by_cases h : c ≥ 48
  · rw [if_pos h, decide_eq_true h, Bool.true_and]
  · rw [if_neg h, decide_eq_false h, Bool.false_and]
theorem wrap32_byte (b : UInt8) : wrap32 (b.toNat : Int) = (b.toNat : Int) := by
  have := b.toNat_lt
  unfold wrap32
  omega
theorem prefix_nam (s : ByteArray) (hs : s.size ≤ 140737488351232) : token_prefix_inName.f s () = some (mkb ((bl s).takeWhile nam)) := by
  unfold token_prefix_inName.f
  rw [if_pos (by omega), sub_zero_end, plen_name, take_tw]
theorem prefix_num (s : ByteArray) (hs : s.size ≤ 140737488351232) : token_prefix_inNumber.f s () = some (mkb ((bl s).takeWhile num)) := by
  unfold token_prefix_inNumber.f
  rw [if_pos (by omega), sub_zero_end, plen_num, take_tw]
theorem next_eq (s : ByteArray) (c : UInt8) (r : List UInt8) (he : bl s = c :: r) (hs : s.size < 4294967281) (k : Nat) (hk : s.size + 60 < k) :
    token_next.f k s = some ((nextL (c :: r)).1, 0, mkb (nextL (c :: r)).2.1, (nextL (c :: r)).2.2) := by
  have hsz : s.size = r.length + 1 := by rw [← bl_len, he]; rfl
  have hb : bt s 0 = (c.toNat : Int) := by
    have := bt_bl s 0
    rw [he] at this
    exact this
  unfold token_next.f
  rw [if_pos (by omega), hb, wrap32_byte, tok_letter, tok_digit]
  simp only [Option.bind_some]
  rw [nextL_cons]
  by_cases hl : low c = true
  · rw [if_pos (show isLow (c.toNat : Int) = true from hl), if_pos hl, prefix_nam s (by omega), he]
    simp only [Option.bind_some]
    rw [tok_Word _ k (by omega), bl_mkb, mkb_size]
    simp only [Option.bind_some]
    by_cases hw : wordB ((c :: r).takeWhile nam) = true
    · rw [if_pos hw, if_pos hw]
    · rw [if_neg hw, if_neg hw]
      by_cases h16 : ((c :: r).takeWhile nam).length > 16
      · rw [if_pos (by omega), if_pos h16]
      · rw [if_neg (by omega), if_neg h16]
  · rw [if_neg (show ¬ isLow (c.toNat : Int) = true from hl), if_neg hl]
    by_cases hd : dig c = true
    · rw [if_pos (show isDig (c.toNat : Int) = true from hd), if_pos hd, prefix_num s (by omega), he]
      simp only [Option.bind_some]
      have hle := tw_le num (c :: r)
      simp only [List.length_cons] at hle
      rw [number_eq _ (by omega) k (by omega)]
      rfl
    · rw [if_neg (show ¬ isDig (c.toNat : Int) = true from hd), if_neg hd, tok_marks]
      simp only [Option.bind_some]
      have hml := marks_len
      have := marks_l0 s marksL (by omega) 16 k 0 (by omega) (by omega) (by omega)
      rw [show ((0 : Nat) : Int) = 0 from rfl, List.drop_zero, marks_map, he] at this
      rw [this]
      rw [show marksB.find? (fun m => m.isPrefixOf (c :: r)) = findM (c :: r) from rfl]
      cases findM (c :: r) <;> rfl
/-! ### the reference -/
theorem drop_head {l : List UInt8} {i : Nat} {c : UInt8} {r : List UInt8} (h : l.drop i = c :: r) : i < l.length ∧ at0 l i = (c.toNat : Int) ∧ l.drop (i + 1) = r := by
  obtain ⟨hi, h1, h2⟩ := drop_cons h
  exact ⟨hi, by rw [at0_eq _ _ hi, h1], h2⟩
theorem end_l0 (s : ByteArray) (hs : s.size ≤ 140737488351232) (more : Bool) : ∀ (d k i : Nat), i ≤ s.size → s.size - i = d → d < k →
    corebankref09_end.l0 k s (i : Int) more = some (((i + (((bl s).drop i).takeWhile (if more then num else nam)).length : Nat) : Int)) := by
  intro d
  induction d with
  | zero =>
    intro k i hi hd hk
    obtain ⟨k, rfl⟩ : ∃ m, k = m + 1 := ⟨k - 1, by omega⟩
    simp only [corebankref09_end.l0]
    rw [if_neg (by omega), List.drop_of_length_le (by rw [bl_len]; omega)]
    rfl
  | succ d ih =>
    intro k i hi hd hk
    obtain ⟨k, rfl⟩ : ∃ m, k = m + 1 := ⟨k - 1, by omega⟩
    have hlt : i < (bl s).length := by rw [bl_len]; omega
    have hbt : bt s (i : Int) = ((bl s)[i].toNat : Int) := bt_list s i hlt
    have hrec : corebankref09_end.l0 k s ((i + 1 : Nat) : Int) more = some (((i + 1 + (((bl s).drop (i + 1)).takeWhile (if more then num else nam)).length : Nat) : Int)) := ih k (i + 1) (by omega) (by omega) (by omega)
    simp only [corebankref09_end.l0]
    rw [if_pos (by omega), if_pos (by omega), ref_letter, ref_digit, wsucc' (by omega), hrec, hbt, List.drop_eq_getElem_cons hlt]
    generalize (bl s)[i] = c
    simp only [Option.bind_some]
    rw [List.takeWhile_cons]
    have hnam : nam c = (isLow (c.toNat : Int) || isDig (c.toNat : Int) || ((c.toNat : Int) == 95)) := rfl
    have hnum : num c = (nam c || ((c.toNat : Int) == 46) || ((c.toNat : Int) == 37)) := rfl
    have hyes : nam c = true → (if more then num else nam) c = true := by
      intro h
      cases more with
      | true => show num c = true; rw [hnum, h]; rfl
      | false => exact h
    have fin : (if more then num else nam) c = true → (some (((i + 1 + (((bl s).drop (i + 1)).takeWhile (if more then num else nam)).length : Nat) : Int)) : Option Int) = some (((i + (if (if more then num else nam) c = true then c :: ((bl s).drop (i + 1)).takeWhile (if more then num else nam) else []).length : Nat) : Int)) := by
      intro h
      rw [if_pos h, List.length_cons]
      congr 2
      omega
    have stop : (if more then num else nam) c = false → (some (i : Int) : Option Int) = some (((i + (if (if more then num else nam) c = true then c :: ((bl s).drop (i + 1)).takeWhile (if more then num else nam) else []).length : Nat) : Int)) := by
      intro h
      rw [h, if_neg (by decide)]
      rfl
    by_cases h1 : isLow (c.toNat : Int) = true
    · rw [if_pos h1]
      exact fin (hyes (by rw [hnam, h1]; rfl))
    · rw [if_neg h1]
      have h1' : isLow (c.toNat : Int) = false := by simpa using h1
      by_cases h2 : isDig (c.toNat : Int) = true
      · rw [if_pos h2]
        exact fin (hyes (by rw [hnam, h2, Bool.or_true]; rfl))
      · rw [if_neg h2]
        have h2' : isDig (c.toNat : Int) = false := by simpa using h2
        by_cases h3 : (c.toNat : Int) = 95
        · rw [if_pos h3]
          exact fin (hyes (by rw [hnam, h3, Bool.or_eq_true]; exact .inr rfl))
        · rw [if_neg h3]
          have hn : nam c = false := by rw [hnam, h1', h2', beq_eq_false_iff_ne.2 h3]; rfl
          cases more with
          | false =>
            rw [if_neg (by decide)]
            exact stop hn
          | true =>
            rw [if_pos rfl]
            by_cases h4 : (c.toNat : Int) = 46
            · rw [if_pos h4]
              exact fin (by show num c = true; rw [hnum, hn, h4]; rfl)
            · rw [if_neg h4]
              by_cases h5 : (c.toNat : Int) = 37
              · rw [if_pos h5]
                exact fin (by show num c = true; rw [hnum, hn, h5]; rfl)
              · rw [if_neg h5]
                exact stop (by show num c = false; rw [hnum, hn, beq_eq_false_iff_ne.2 h4, beq_eq_false_iff_ne.2 h5]; rfl)
theorem mark_l0 (s : ByteArray) (i : Nat) (hi : i < s.size) (hs : s.size ≤ 140737488351232) (c : UInt8) (hc : bt s (i : Int) = (c.toNat : Int)) : ∀ (d k j : Nat), j ≤ 13 → 13 - j = d → d < k →
    corebankref09_mark.l0 k s (i : Int) (mkb singles) (j : Int) = some (if c ∈ singles.drop j then 1 else 0) := by
  have hl : singles.length = 13 := rfl
  intro d
  induction d with
  | zero =>
    intro k j hj hd hk
    obtain ⟨k, rfl⟩ : ∃ m, k = m + 1 := ⟨k - 1, by omega⟩
    simp only [corebankref09_mark.l0]
    rw [if_neg (by rw [mkb_size]; omega), List.drop_of_length_le (by omega)]
    rfl
  | succ d ih =>
    intro k j hj hd hk
    obtain ⟨k, rfl⟩ : ∃ m, k = m + 1 := ⟨k - 1, by omega⟩
    have hlt : j < singles.length := by omega
    have hbt : bt (mkb singles) (j : Int) = (singles[j].toNat : Int) := bt_list (mkb singles) j hlt
    simp only [corebankref09_mark.l0]
    rw [if_pos (by rw [mkb_size]; omega), if_pos (by omega), if_pos (by omega), if_pos (by omega), hbt, hc, List.drop_eq_getElem_cons hlt]
    by_cases h : c = singles[j]
    · rw [if_pos (by rw [h]), if_pos (List.mem_cons.2 (.inl h))]
    · have h2 : ¬ ((singles[j].toNat : Int) = (c.toNat : Int)) := fun g => h (UInt8.toNat_inj.1 (by omega))
      rw [if_neg h2, wsucc' (by omega), ih k (j + 1) (by omega) (by omega) (by omega)]
      by_cases h3 : c ∈ singles.drop (j + 1)
      · rw [if_pos h3, if_pos (List.mem_cons.2 (.inr h3))]
      · rw [if_neg h3, if_neg (fun g => (List.mem_cons.1 g).elim h h3)]
theorem nat_if (b : Bool) (p : Prop) [Decidable p] : (some (if b = true then 2 else if p then 1 else 0) : Option Int) = some (((if b = true then 2 else if p then 1 else 0 : Nat)) : Int) := by
  cases b <;> by_cases h : p <;> simp [h]
theorem mark_j0 (s : ByteArray) (i : Nat) (hi : i < s.size) (hs : s.size ≤ 140737488351232) (c : UInt8) (hc : bt s (i : Int) = (c.toNat : Int)) (b : Bool) (k : Nat) (hk : 30 < k) :
    corebankref09_mark.j0 k s (i : Int) b = some (if b = true then 2 else if c ∈ singles then 1 else 0) := by
  obtain ⟨k, rfl⟩ : ∃ m, k = m + 1 := ⟨k - 1, by omega⟩
  simp only [corebankref09_mark.j0]
  cases b with
  | true => rfl
  | false =>
    rw [if_neg (show ¬ (false = true) by decide), if_neg (show ¬ (false = true) by decide)]
    exact mark_l0 s i hi hs c hc 13 k 0 (by omega) (by omega) (by omega)
theorem mark_eq (s : ByteArray) (hs : s.size ≤ 140737488351232) (i : Nat) (c : UInt8) (r : List UInt8) (he : (bl s).drop i = c :: r) (k : Nat) (hk : 40 < k) :
    corebankref09_mark.f k s (i : Int) = some ((markC c (eqNext r) : Nat) : Int) := by
  obtain ⟨hi, hc0, hr⟩ := drop_head he
  rw [bl_len] at hi
  have hc : bt s (i : Int) = (c.toNat : Int) := (bt_bl s i).trans hc0
  unfold corebankref09_mark.f markC
  rw [wsucc' (by omega)]
  have tail : ∀ b : Bool, (some (if b = true then 2 else if c ∈ singles then 1 else 0) : Option Int) = some (((if b = true then 2 else if c ∈ singles then 1 else 0 : Nat)) : Int) := fun b => nat_if b _
  by_cases h1 : i + 1 < s.size
  · have hlt : i + 1 < (bl s).length := by rw [bl_len]; exact h1
    have hr2 : r = (bl s)[i + 1] :: (bl s).drop (i + 2) := by rw [← hr]; exact List.drop_eq_getElem_cons hlt
    have hbt : bt s ((i + 1 : Nat) : Int) = ((bl s)[i + 1].toNat : Int) := bt_list s (i + 1) hlt
    rw [if_pos (by omega), if_pos (by omega), hbt]
    by_cases h2 : (bl s)[i + 1] = 61
    · have hn : eqNext r = true := by rw [hr2, h2]; rfl
      rw [hn, if_pos (by rw [h2]; rfl), if_pos (by omega), if_pos (by omega), hc]
      by_cases h3 : c = 61
      · rw [if_pos (by rw [h3]; rfl), mark_j0 s i hi hs c hc _ k (by omega), if_pos rfl, if_pos ⟨rfl, .inl h3⟩]; rfl
      · rw [if_neg (show ¬ ((c.toNat : Int) = 61) from fun g => h3 (byte_of (n := 61) g (by decide)))]
        by_cases h4 : c = 33
        · rw [if_pos (by rw [h4]; rfl), mark_j0 s i hi hs c hc _ k (by omega), if_pos rfl, if_pos ⟨rfl, .inr (.inl h4)⟩]; rfl
        · rw [if_neg (show ¬ ((c.toNat : Int) = 33) from fun g => h4 (byte_of (n := 33) g (by decide))), mark_j0 s i hi hs c hc _ k (by omega), tail]
          by_cases h5 : c = 60
          · have e : ((c.toNat : Int) == 60) = true := by rw [h5]; rfl
            rw [e, if_pos rfl, if_pos ⟨rfl, .inr (.inr h5)⟩]
          · have e : ((c.toNat : Int) == 60) = false := beq_eq_false_iff_ne.2 fun g => h5 (byte_of (n := 60) g (by decide))
            rw [e, if_neg (show ¬ (false = true) by decide), if_neg (show ¬ (true = true ∧ (c = 61 ∨ c = 33 ∨ c = 60)) by rintro ⟨_, g | g | g⟩ <;> contradiction)]
    · have hn : eqNext r = false := by
        rw [hr2]
        unfold eqNext
        rw [List.head?_cons, beq_eq_false_iff_ne]
        exact fun g => h2 (Option.some.inj g)
      rw [hn, if_neg (show ¬ (((bl s)[i + 1].toNat : Int) = 61) from fun g => h2 (byte_of (n := 61) g (by decide))), mark_j0 s i hi hs c hc _ k (by omega), tail, if_neg (show ¬ (false = true) by decide), if_neg (show ¬ (false = true ∧ (c = 61 ∨ c = 33 ∨ c = 60)) by rintro ⟨g, _⟩; cases g)]
  · have hn : eqNext r = false := by
      have : r = [] := by rw [← hr, List.drop_of_length_le (by rw [bl_len]; omega)]
      rw [this]; rfl
    rw [hn, if_neg (by omega), mark_j0 s i hi hs c hc _ k (by omega), tail, if_neg (show ¬ (false = true) by decide), if_neg (show ¬ (false = true ∧ (c = 61 ∨ c = 33 ∨ c = 60)) by rintro ⟨g, _⟩; cases g)]
end Go.Proofs.YtmcebojboffdoaaGreatDoor.P
