/-
  The tokens of a text: the program's and the reference's are those of one relation ('Tk'), that has one result for each text. Conditions: at most 1000000 bytes.
-/
import Derived.Test.YtmcebojboffdoaaGreatDoorQi
namespace Go.Proofs.YtmcebojboffdoaaGreatDoor.P
set_option linter.unusedVariables false
set_option linter.unusedSimpArgs false
open Go.RowKit Go.Proofs.YtmcebojboffdoaaGreatDoorW.PrintWords Go.Proofs.YtmcebojboffdoaaGreatDoorW.PrintLast Go.Proofs.YtmcebojboffdoaaGreatDoorW.PrintMore
theorem blank_no {c : UInt8} (h : blank c = false) : c ≠ 32 ∧ c ≠ 9 ∧ c ≠ 10 ∧ c ≠ 35 := by
  unfold blank at h
  simp only [Bool.or_eq_false_iff, beq_eq_false_iff_ne] at h
  exact ⟨h.1.1.1, h.1.1.2, h.1.2, h.2⟩
theorem byte_ne {c : UInt8} {n : Nat} (h : c ≠ UInt8.ofNat n) (hn : n < 256) : (c.toNat : Int) ≠ n := fun g => h (byte_of g hn)
theorem lin_iff (c : UInt8) : lin c = true ↔ c ≠ 10 := by
  show ((c.toNat : Int) != 10) = true ↔ _
  rw [bne_iff_ne]
  exact ⟨fun h g => h (by rw [g]; rfl), fun h => byte_ne (n := 10) h (by decide)⟩
theorem prefix_lin (s : ByteArray) (hs : s.size ≤ 140737488351232) : token_prefix_line.f s () = some (mkb ((bl s).takeWhile lin)) := by
  unfold token_prefix_line.f
  rw [if_pos (by omega), sub_zero_end, plen_line, take_tw]
theorem suffix_eq (s : ByteArray) (i : Nat) : s.extract i s.size = mkb ((bl s).drop i) := bl_inj (by rw [bl_end, bl_mkb])
theorem blanks_l0 (s : ByteArray) (hs : s.size ≤ 1000000) {l : List UInt8} {n m : Nat} (h : Sk l n m) : ∀ (i k : Nat), (bl s).drop i = l → i ≤ s.size → 2 * l.length + 2 ≤ k →
    token_blanks.l0 k s (i : Int) = some ((i + n : Nat) : Int) := by
  induction h with
  | nil =>
    intro i k he hi hk
    obtain ⟨k, rfl⟩ : ∃ j, k = j + 1 := ⟨k - 1, by omega⟩
    have : s.size ≤ i := by rw [← bl_len]; exact List.drop_eq_nil_iff.1 he
    simp only [token_blanks.l0]
    rw [if_neg (by omega)]
    rfl
  | @stop c l hb =>
    intro i k he hi hk
    obtain ⟨k, rfl⟩ : ∃ j, k = j + 2 := ⟨k - 2, by simp only [List.length_cons] at hk; omega⟩
    obtain ⟨hi2, hc0, hr⟩ := drop_head he
    rw [bl_len] at hi2
    have hc : bt s (i : Int) = (c.toNat : Int) := (bt_bl s i).trans hc0
    obtain ⟨h1, h2, h3, h4⟩ := blank_no hb
    have n1 : (c.toNat : Int) ≠ 32 := byte_ne (n := 32) h1 (by decide)
    have n2 : (c.toNat : Int) ≠ 9 := byte_ne (n := 9) h2 (by decide)
    have n3 : (c.toNat : Int) ≠ 10 := byte_ne (n := 10) h3 (by decide)
    have n4 : (c.toNat : Int) ≠ 35 := byte_ne (n := 35) h4 (by decide)
    simp only [token_blanks.l0, token_blanks.j1]
    rw [hc, if_pos (by omega), if_pos (by omega), if_neg n1, if_neg n2, beq_eq_false_iff_ne.2 n3, if_neg (by decide), if_neg n4]
    rfl
  | @nl l n m _ ih =>
    intro i k he hi hk
    simp only [List.length_cons] at hk
    obtain ⟨k, rfl⟩ : ∃ j, k = j + 2 := ⟨k - 2, by omega⟩
    obtain ⟨hi2, hc0, hr⟩ := drop_head he
    rw [bl_len] at hi2
    have hc : bt s (i : Int) = 10 := (bt_bl s i).trans hc0
    have ih' := ih (i + 1) k hr (by omega) (by omega)
    simp only [token_blanks.l0, token_blanks.j1]
    rw [hc, if_pos (by omega), if_pos (by omega), if_neg (by decide), if_neg (by decide), if_pos (by decide), wsucc' (by omega), ih', show i + 1 + n = i + (n + 1) by omega]
  | @sp c l n m hc2 _ ih =>
    intro i k he hi hk
    simp only [List.length_cons] at hk
    obtain ⟨k, rfl⟩ : ∃ j, k = j + 2 := ⟨k - 2, by omega⟩
    obtain ⟨hi2, hc0, hr⟩ := drop_head he
    rw [bl_len] at hi2
    have hc : bt s (i : Int) = (c.toNat : Int) := (bt_bl s i).trans hc0
    have ih' := ih (i + 1) k hr (by omega) (by omega)
    simp only [token_blanks.l0, token_blanks.j1]
    rw [hc, if_pos (by omega), if_pos (by omega), wsucc' (by omega), ih', show i + 1 + n = i + (n + 1) by omega]
    rcases hc2 with rfl | rfl
    · rw [if_pos (by decide), if_pos (by decide)]
    · rw [if_neg (by decide), if_pos (by decide), if_pos (by decide)]
  | @com l n m _ ih =>
    intro i k he hi hk
    simp only [List.length_cons] at hk
    obtain ⟨k, rfl⟩ : ∃ j, k = j + 2 := ⟨k - 2, by omega⟩
    obtain ⟨hi2, hc0, hr⟩ := drop_head he
    rw [bl_len] at hi2
    have hc : bt s (i : Int) = 35 := (bt_bl s i).trans hc0
    have hd := dw_len lin l
    have hlen : s.size = i + (l.length + 1) := by
      have := congrArg List.length he
      rw [List.length_drop, bl_len, List.length_cons] at this
      omega
    have hr2 : (bl s).drop (i + (1 + (l.takeWhile lin).length)) = l.dropWhile lin := by
      rw [← List.drop_drop, he, Nat.add_comm 1, List.drop_succ_cons, drop_tw]
    have ih' := ih (i + (1 + (l.takeWhile lin).length)) k hr2 (by omega) (by omega)
    have hpre : token_prefix_line.f (s.extract i s.size) () = some (mkb (35 :: l.takeWhile lin)) := by
      rw [suffix_eq, he, prefix_lin _ (by rw [mkb_size, List.length_cons]; omega), bl_mkb, List.takeWhile_cons, if_pos ((lin_iff 35).2 (by decide))]
    have hw : wrap64 ((i : Int) + ((mkb (35 :: l.takeWhile lin)).size : Int)) = ((i + (1 + (l.takeWhile lin).length) : Nat) : Int) := by
      rw [mkb_size, List.length_cons, wrap_in (by omega) (by omega)]
      omega
    simp only [token_blanks.l0, token_blanks.j1]
    rw [hc, if_pos (by omega), if_pos (by omega), if_neg (by decide), if_neg (by decide), if_neg (by decide), if_pos rfl, if_pos (by omega), if_pos (show (i : Int) ≤ (s.size : Int) by omega), Int.toNat_natCast, hpre]
    simp only [Option.bind_some]
    rw [hw, ih', show i + (1 + (l.takeWhile lin).length) + n = i + (1 + (l.takeWhile lin).length + n) by omega]
theorem lin_count : ∀ l : List UInt8, (l.takeWhile lin).count 10 = 0
  | [] => rfl
  | c :: l => by
    rw [List.takeWhile_cons]
    by_cases h : lin c = true
    · rw [if_pos h, List.count_cons, lin_count l, if_neg (by simpa using (lin_iff c).1 h)]
    · rw [if_neg h]; rfl
theorem Sk.count {l : List UInt8} {n m : Nat} (h : Sk l n m) : (l.take n).count 10 = m := by
  induction h with
  | nil => rfl
  | stop => rfl
  | nl _ ih => rw [List.take_succ_cons, List.count_cons, ih]; rfl
  | @sp c l n m hc _ ih =>
    rw [List.take_succ_cons, List.count_cons, ih, if_neg (by rcases hc with rfl | rfl <;> decide)]
    rfl
  | @com l n m _ ih =>
    have e : l = l.takeWhile lin ++ l.dropWhile lin := (List.takeWhile_append_dropWhile).symm
    have e2 : l.take ((l.takeWhile lin).length + n) = l.takeWhile lin ++ (l.dropWhile lin).take n := by
      have h1 : (l.takeWhile lin ++ l.dropWhile lin).take ((l.takeWhile lin).length + n) = l.takeWhile lin ++ (l.dropWhile lin).take n := by
        rw [List.take_append, List.take_of_length_le (by omega), Nat.add_sub_cancel_left]
      rwa [← e] at h1
    rw [show 1 + (l.takeWhile lin).length + n = ((l.takeWhile lin).length + n) + 1 by omega, List.take_succ_cons, List.count_cons, e2, List.count_append, lin_count, ih]
    simp
/-! ### the token's text -/
theorem numL_text (t : List UInt8) (h0 : t ≠ []) (h : (numL t).2.2 = 0) : (numL t).2.1 = t := by
  unfold numL at h ⊢
  by_cases hi : intL t = true
  · rw [if_pos hi] at h ⊢
    by_cases hv : val t < 9223372036854775808
    · rw [if_pos hv]
    · rw [if_neg hv] at h; exact absurd h (by decide)
  · rw [if_neg hi] at h ⊢
    by_cases h2 : (rateF t).2 = 0
    · rw [if_pos h2]
    · rw [if_neg h2] at h
      by_cases h3 : (rateF t).2 = 1
      · rw [if_pos h3] at h; exact absurd h (by decide)
      · rw [if_neg h3] at h; exact absurd h (by decide)
theorem dig_num {c : UInt8} (h : dig c = true) : num c = true := by
  show (isLow (c.toNat : Int) || isDig (c.toNat : Int) || ((c.toNat : Int) == 95) || ((c.toNat : Int) == 46) || ((c.toNat : Int) == 37)) = true
  rw [show isDig (c.toNat : Int) = true from h]
  simp
theorem low_nam {c : UInt8} (h : low c = true) : nam c = true := by
  show (isLow (c.toNat : Int) || isDig (c.toNat : Int) || ((c.toNat : Int) == 95)) = true
  rw [show isLow (c.toNat : Int) = true from h]
  rfl
/-- A token's text is not empty and stands at the beginning. -/
theorem next_text (c : UInt8) (r : List UInt8) (h : (nextL (c :: r)).2.2 = 0) : (nextL (c :: r)).2.1 ≠ [] ∧ ∃ y, c :: r = (nextL (c :: r)).2.1 ++ y := by
  rw [nextL_cons] at h ⊢
  have tw : ∀ q : UInt8 → Bool, q c = true → (c :: r).takeWhile q ≠ [] ∧ ∃ y, c :: r = (c :: r).takeWhile q ++ y := by
    intro q hq
    refine ⟨by rw [List.takeWhile_cons, if_pos hq]; exact List.cons_ne_nil _ _, (c :: r).dropWhile q, (List.takeWhile_append_dropWhile).symm⟩
  by_cases hl : low c = true
  · rw [if_pos hl] at h ⊢
    have := tw nam (low_nam hl)
    generalize (c :: r).takeWhile nam = nm at *
    by_cases hw : wordB nm = true
    · rw [if_pos hw]; exact this
    · rw [if_neg hw] at h ⊢
      by_cases h16 : nm.length > 16
      · rw [if_pos h16] at h; exact absurd h (by decide)
      · rw [if_neg h16]; exact this
  · rw [if_neg hl] at h ⊢
    by_cases hd : dig c = true
    · rw [if_pos hd] at h ⊢
      have := tw num (dig_num hd)
      rw [numL_text _ this.1 h]
      exact this
    · rw [if_neg hd] at h ⊢
      cases hf : findM (c :: r) with
      | none => rw [hf] at h; exact absurd h (by decide)
      | some m =>
        have hp := List.find?_some hf
        have hm := List.mem_of_find?_eq_some hf
        have hne : m ≠ [] := by
          rcases marks_shape m hm with ⟨x, rfl⟩ | ⟨x, rfl⟩ <;> exact List.cons_ne_nil _ _
        obtain ⟨y, hy⟩ := List.isPrefixOf_iff_prefix.1 hp
        exact ⟨hne, y, hy.symm⟩
/-! ### the tokens -/
inductive Tk : List UInt8 → Nat → List S40 → (List S40 × Int × Int) → Prop
  | done {l : List UInt8} {n m line : Nat} {acc : List S40} : Sk l n m → l.drop n = [] → Tk l line acc (acc, 0, 0)
  | err {l : List UInt8} {n m line : Nat} {acc : List S40} {c : UInt8} {r : List UInt8} : Sk l n m → l.drop n = c :: r → (nextL (c :: r)).2.2 ≠ 0 → Tk l line acc ([], ((line + m : Nat) : Int), (nextL (c :: r)).2.2)
  | tok {l : List UInt8} {n m line : Nat} {acc : List S40} {c : UInt8} {r : List UInt8} {res : List S40 × Int × Int} : Sk l n m → l.drop n = c :: r → (nextL (c :: r)).2.2 = 0 →
      Tk ((c :: r).drop (nextL (c :: r)).2.1.length) (line + m) (acc ++ [⟨(nextL (c :: r)).1, ((line + m : Nat) : Int), mkb (nextL (c :: r)).2.1⟩]) res → Tk l line acc res
theorem text_len (c : UInt8) (r : List UInt8) (h : (nextL (c :: r)).2.2 = 0) : 0 < (nextL (c :: r)).2.1.length ∧ (nextL (c :: r)).2.1.length ≤ r.length + 1 := by
  obtain ⟨h1, y, h2⟩ := next_text c r h
  have := congrArg List.length h2
  rw [List.length_append, List.length_cons] at this
  exact ⟨List.length_pos_iff.2 h1, by omega⟩
theorem Tk.ex : ∀ (d : Nat) (l : List UInt8) (line : Nat) (acc : List S40), l.length ≤ d → ∃ res, Tk l line acc res := by
  intro d
  induction d with
  | zero =>
    intro l line acc h
    cases l with
    | nil => exact ⟨_, .done .nil rfl⟩
    | cons c l => simp only [List.length_cons] at h; omega
  | succ d ih =>
    intro l line acc h
    obtain ⟨n, m, hS⟩ := Sk.ex l.length l (Nat.le_refl _)
    cases hd : l.drop n with
    | nil => exact ⟨_, .done hS hd⟩
    | cons c r =>
      by_cases he : (nextL (c :: r)).2.2 = 0
      · obtain ⟨h1, h2⟩ := text_len c r he
        have hl := congrArg List.length hd
        rw [List.length_drop, List.length_cons] at hl
        obtain ⟨res, hT⟩ := ih ((c :: r).drop (nextL (c :: r)).2.1.length) (line + m) (acc ++ [⟨(nextL (c :: r)).1, ((line + m : Nat) : Int), mkb (nextL (c :: r)).2.1⟩]) (by rw [List.length_drop, List.length_cons]; omega)
        exact ⟨res, .tok hS hd he hT⟩
      · exact ⟨_, .err hS hd he⟩
theorem Sk.line {l : List UInt8} {n m : Nat} (h : Sk l n m) : m ≤ n := by
  induction h with
  | nil => exact Nat.le_refl _
  | stop => exact Nat.le_refl _
  | nl _ ih => omega
  | sp _ _ ih => omega
  | com _ ih => omega
theorem count10 (s : ByteArray) : strings_Count.f s (⟨#[10]⟩ : ByteArray) = some (((bl s).count 10 : Nat) : Int) := by
  unfold strings_Count.f
  rw [dif_pos (show (⟨#[10]⟩ : ByteArray).size = 1 from rfl)]
  rfl
/-- The program's tokens. -/
theorem tok_l0 {l : List UInt8} {line : Nat} {acc : List S40} {res : List S40 × Int × Int} (h : Tk l line acc res) : ∀ k, 2 * l.length + 100 ≤ k → l.length ≤ 1000000 → line + l.length ≤ 10000000 → acc.length + l.length ≤ 10000000 →
    token_Tokenize.l0 k (mkb l) acc (line : Int) = some res := by
  induction h with
  | @done l n m line acc hS hd =>
    intro k hk hl hline hacc
    obtain ⟨k, rfl⟩ : ∃ j, k = j + 1 := ⟨k - 1, by omega⟩
    have hn := hS.le
    have hb := blanks_l0 (mkb l) hl hS 0 k (by rw [bl_mkb, List.drop_zero]) (by omega) (by omega)
    rw [show ((0 : Nat) : Int) = 0 from rfl, Nat.zero_add] at hb
    simp only [token_Tokenize.l0]
    unfold token_blanks.f
    rw [hb]
    simp only [Option.bind_some]
    rw [if_pos (by omega), if_pos (by rw [mkb_size]; omega), count10, Int.toNat_natCast, suffix_eq, bl_mkb, hd]
    simp only [Option.bind_some]
    rw [if_pos (by rw [toList_bl])]
  | @err l n m line acc c r hS hd he =>
    intro k hk hl hline hacc
    obtain ⟨k, rfl⟩ : ∃ j, k = j + 1 := ⟨k - 1, by omega⟩
    have hn := hS.le
    have hml := hS.line
    have hb := blanks_l0 (mkb l) hl hS 0 k (by rw [bl_mkb, List.drop_zero]) (by omega) (by omega)
    rw [show ((0 : Nat) : Int) = 0 from rfl, Nat.zero_add] at hb
    have hlen := congrArg List.length hd
    rw [List.length_drop, List.length_cons] at hlen
    simp only [token_Tokenize.l0]
    unfold token_blanks.f
    rw [hb]
    simp only [Option.bind_some]
    rw [if_pos (by omega), if_pos (by rw [mkb_size]; omega), count10, Int.toNat_natCast, suffix_eq, bl_head, bl_mkb, hd, hS.count]
    simp only [Option.bind_some]
    rw [if_neg (by rw [toList_bl]; exact List.cons_ne_nil _ _), next_eq (mkb (c :: r)) c r rfl (by rw [mkb_size, List.length_cons]; omega) k (by rw [mkb_size, List.length_cons]; omega)]
    simp only [Option.bind_some]
    rw [if_neg he, wrap_in (by omega) (by omega)]
    congr 3
  | @tok l n m line acc c r res hS hd he _ ih =>
    intro k hk hl hline hacc
    obtain ⟨k, rfl⟩ : ∃ j, k = j + 1 := ⟨k - 1, by omega⟩
    have hn := hS.le
    have hml := hS.line
    have hb := blanks_l0 (mkb l) hl hS 0 k (by rw [bl_mkb, List.drop_zero]) (by omega) (by omega)
    rw [show ((0 : Nat) : Int) = 0 from rfl, Nat.zero_add] at hb
    have hlen := congrArg List.length hd
    rw [List.length_drop, List.length_cons] at hlen
    obtain ⟨t1, t2⟩ := text_len c r he
    have hrest : (mkb (c :: r)).extract (nextL (c :: r)).2.1.length (mkb (c :: r)).size = mkb ((c :: r).drop (nextL (c :: r)).2.1.length) := suffix_eq _ _
    have ih' := ih k (by rw [List.length_drop, List.length_cons]; omega) (by rw [List.length_drop, List.length_cons]; omega) (by rw [List.length_drop, List.length_cons]; omega) (by rw [List.length_drop, List.length_cons, List.length_append, List.length_singleton]; omega)
    have hw : wrap64 ((line : Int) + (m : Int)) = ((line + m : Nat) : Int) := by rw [wrap_in (by omega) (by omega)]; omega
    simp only [token_Tokenize.l0]
    unfold token_blanks.f
    rw [hb]
    simp only [Option.bind_some]
    rw [if_pos (by omega), if_pos (by rw [mkb_size]; omega), count10, Int.toNat_natCast, suffix_eq, bl_head, bl_mkb, hd, hS.count]
    simp only [Option.bind_some]
    rw [if_neg (by rw [toList_bl]; exact List.cons_ne_nil _ _), next_eq (mkb (c :: r)) c r rfl (by rw [mkb_size, List.length_cons]; omega) k (by rw [mkb_size, List.length_cons]; omega)]
    simp only [Option.bind_some]
    rw [if_pos he, if_pos (by omega), if_pos (by omega), if_pos (by rw [mkb_size, mkb_size, List.length_cons]; omega), Int.toNat_natCast, mkb_size, hw, hrest]
    exact ih'
end Go.Proofs.YtmcebojboffdoaaGreatDoor.P
