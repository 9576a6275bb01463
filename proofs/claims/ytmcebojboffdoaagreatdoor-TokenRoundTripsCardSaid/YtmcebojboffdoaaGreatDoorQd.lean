/-
  The program's percentage: the same number or error as the reference's. Conditions: at most 2^32 - 16 bytes.
-/
import Derived.Test.YtmcebojboffdoaaGreatDoorQc
namespace Go.Proofs.YtmcebojboffdoaaGreatDoor.P
set_option linter.unusedVariables false
set_option linter.unusedSimpArgs false
open Go.RowKit Go.Proofs.YtmcebojboffdoaaGreatDoorW.PrintWords Go.Proofs.YtmcebojboffdoaaGreatDoorW.PrintLast Go.Proofs.YtmcebojboffdoaaGreatDoorW.PrintMore
theorem intL_iff (l : List UInt8) : intL l = true ↔ l ≠ [] ∧ l.all dig = true ∧ (l.length = 1 ∨ l.head? ≠ some 48) := by
  unfold intL
  simp only [Bool.and_eq_true, Bool.or_eq_true, beq_iff_eq, bne_iff_ne, Bool.not_eq_true', List.isEmpty_eq_false_iff, ne_eq, and_assoc]
theorem sub_zero_end (s : ByteArray) (n : Nat) : s.extract 0 n = mkb ((bl s).take n) := bl_inj (by rw [bl_head, bl_mkb])
theorem prefix_dig (s : ByteArray) (hs : s.size ≤ 140737488351232) : token_prefix_digit.f s () = some (mkb ((bl s).takeWhile dig)) := by
  unfold token_prefix_digit.f
  rw [if_pos (by omega), sub_zero_end, plen_digit, take_tw]
theorem tok_integer (s : ByteArray) (hs : s.size ≤ 140737488351232) : token_integer.f s = some (intL (bl s)) := by
  unfold token_integer.f
  rw [toList_bl, prefix_dig s hs]
  by_cases h0 : bl s = []
  · rw [if_pos h0, h0]; rfl
  rw [if_neg h0]
  simp only [Option.bind_some]
  have e1 : (mkb ((bl s).takeWhile dig)).toList = (bl s).takeWhile dig := by rw [toList_bl]
  have hpos : 0 < s.size := by
    have := List.length_pos_iff.2 h0
    rwa [bl_len] at this
  rw [e1]
  unfold intL
  have e2 : (bl s).isEmpty = false := by simpa using h0
  rw [e2]
  by_cases h1 : (bl s).takeWhile dig = bl s
  · rw [if_pos h1, (tw_eq_iff dig _).1 h1]
    by_cases h2 : s.size = 1
    · rw [if_pos (by omega), bl_len, h2]; rfl
    · rw [if_neg (by omega), if_pos (by omega)]
      have e3 : ((bl s).length == 1) = false := by rw [bl_len]; simpa using h2
      rw [e3, show bt s 0 = at0 (bl s) 0 from bt_bl s 0]
      cases hl : bl s with
      | nil => exact absurd hl h0
      | cons b l =>
        have h3 : dig b = true := by
          have := (tw_eq_iff dig _).1 h1
          rw [hl, List.all_cons, Bool.and_eq_true] at this
          exact this.1
        have e4 : (at0 (b :: l) 0 != 48) = ((b :: l).head? != some 48) := by
          rw [at0_cons, List.head?_cons]
          by_cases hb : b = 48
          · subst hb; rfl
          · have h5 : (b.toNat : Int) ≠ 48 := fun h => hb (byte_of (n := 48) h (by decide))
            rw [bne_iff_ne.2 h5, bne_iff_ne.2 (fun h => hb (Option.some.inj h))]
        rw [e4]
        simp
  · rw [if_neg h1]
    have : (bl s).all dig = false := by
      cases h2 : (bl s).all dig with
      | false => rfl
      | true => exact absurd (tw_eq_of_all dig _ h2) h1
    rw [this]; rfl
/-! ### cut -/
theorem index_c (c : UInt8) (b : List UInt8) : ∀ a : List UInt8, c ∉ a → Lib.index (a ++ c :: b) [c] = a.length
  | [], _ => by
    show (if [c].isPrefixOf (c :: b) then (0 : Int) else _) = _
    rw [if_pos (by simp)]
    rfl
  | x :: a, h => by
    have h1 : c ≠ x := fun e => h (e ▸ List.mem_cons_self)
    have ih := index_c c b a (fun g => h (List.mem_cons_of_mem _ g))
    rw [List.cons_append]
    unfold Lib.index
    rw [if_neg (by simp [h1]), ih, if_neg (by rw [beq_iff_eq]; omega), List.length_cons]
    rfl
theorem index_no (c : UInt8) : ∀ a : List UInt8, c ∉ a → Lib.index a [c] = -1
  | [], _ => rfl
  | x :: a, h => by
    have h1 : c ≠ x := fun e => h (e ▸ List.mem_cons_self)
    have ih := index_no c a (fun g => h (List.mem_cons_of_mem _ g))
    show (if [c].isPrefixOf (x :: a) then (0 : Int) else if Lib.index a [c] == -1 then -1 else _) = _
    rw [if_neg (by simp [h1]), ih, if_pos (by rfl)]
theorem cut_c (c : UInt8) (a b : List UInt8) (h : c ∉ a) : Lib.cut (a ++ c :: b) [c] = (a, b, true) := by
  unfold Lib.cut
  rw [index_c c b a h, if_pos (by omega), Int.toNat_natCast, List.take_left, List.length_singleton]
  have : (a ++ c :: b).drop (a.length + 1) = b := by
    rw [List.drop_append, List.drop_of_length_le (by omega)]
    simp
  rw [this]
theorem cut_no (c : UInt8) (a : List UInt8) (h : c ∉ a) : Lib.cut a [c] = (a, [], false) := by
  unfold Lib.cut
  rw [index_no c a h, if_neg (by omega)]
theorem split_at (c : UInt8) : ∀ l : List UInt8, c ∈ l → ∃ a b, l = a ++ c :: b ∧ c ∉ a
  | [], h => by cases h
  | x :: l, h => by
    by_cases e : c = x
    · exact ⟨[], l, by rw [e]; rfl, by simp⟩
    · rcases List.mem_cons.1 h with g | g
      · exact absurd g e
      · obtain ⟨a, b, e2, h2⟩ := split_at c l g
        exact ⟨x :: a, b, by rw [e2]; rfl, fun g2 => (List.mem_cons.1 g2).elim e h2⟩
theorem split_uniq (c : UInt8) : ∀ (a a' b b' : List UInt8), c ∉ a → c ∉ a' → a ++ c :: b = a' ++ c :: b' → a = a' ∧ b = b'
  | [], [], b, b', _, _, h => ⟨rfl, by simpa using h⟩
  | [], x :: a', b, b', _, h2, h => by
    simp only [List.nil_append, List.cons_append, List.cons.injEq] at h
    exact absurd (h.1 ▸ List.mem_cons_self) h2
  | x :: a, [], b, b', h1, _, h => by
    simp only [List.nil_append, List.cons_append, List.cons.injEq] at h
    exact absurd (h.1 ▸ List.mem_cons_self) h1
  | x :: a, y :: a', b, b', h1, h2, h => by
    simp only [List.cons_append, List.cons.injEq] at h
    obtain ⟨e1, e2⟩ := split_uniq c a a' b b' (fun g => h1 (List.mem_cons_of_mem _ g)) (fun g => h2 (List.mem_cons_of_mem _ g)) h.2
    exact ⟨by rw [h.1, e1], e2⟩
theorem no_dot {w : List UInt8} (h : w.all dig = true) : (46 : UInt8) ∉ w := fun g => by
  have := List.all_eq_true.1 h 46 g
  exact absurd this (by decide)
/-! ### the suffix -/
abbrev pc : ByteArray := ⟨#[37]⟩
abbrev dot : ByteArray := ⟨#[46]⟩
theorem has_suffix (s : ByteArray) (hs : s.size ≤ 140737488351232) (c : UInt8) (t : List UInt8) (h : bl s = t ++ [c]) : stringslite_HasSuffix.f s (⟨#[c]⟩ : ByteArray) = some true := by
  unfold stringslite_HasSuffix.f
  have e0 : (((⟨#[c]⟩ : ByteArray).size : Nat) : Int) = 1 := rfl
  have hl : s.size = t.length + 1 := by rw [← bl_len, h]; simp
  have hw : wrap64 ((s.size : Int) - 1) = ((s.size - 1 : Nat) : Int) := by unfold wrap64; omega
  have hc : bl (⟨#[c]⟩ : ByteArray) = [c] := rfl
  rw [e0, if_pos (by omega), hw, if_pos (by omega), if_pos (by omega), Int.toNat_natCast, toList_bl, toList_bl, bl_end, hc, h, show s.size - 1 = t.length by omega, List.drop_left]
  simp
theorem has_suffix_no (s : ByteArray) (hs : s.size ≤ 140737488351232) (c : UInt8) (h : ¬ ∃ t, bl s = t ++ [c]) : stringslite_HasSuffix.f s (⟨#[c]⟩ : ByteArray) = some false := by
  unfold stringslite_HasSuffix.f
  have e0 : (((⟨#[c]⟩ : ByteArray).size : Nat) : Int) = 1 := rfl
  have hc : bl (⟨#[c]⟩ : ByteArray) = [c] := rfl
  rw [e0]
  by_cases h1 : 1 ≤ s.size
  · have hw : wrap64 ((s.size : Int) - 1) = ((s.size - 1 : Nat) : Int) := by unfold wrap64; omega
    rw [if_pos (by omega), hw, if_pos (by omega), if_pos (by omega), Int.toNat_natCast, toList_bl, toList_bl, bl_end, hc]
    congr 1
    rw [beq_eq_false_iff_ne]
    intro g
    exact h ⟨(bl s).take (s.size - 1), by rw [← g, List.take_append_drop]⟩
  · rw [if_neg (by omega)]
theorem cutsuf_yes (s : ByteArray) (hs : s.size ≤ 140737488351232) (t : List UInt8) (h : bl s = t ++ [37]) : strings_CutSuffix.f s pc = some (mkb t, true) := by
  unfold strings_CutSuffix.f stringslite_CutSuffix.f
  have hl : s.size = t.length + 1 := by rw [← bl_len, h]; simp
  have e0 : ((pc.size : Nat) : Int) = 1 := rfl
  have hw : wrap64 ((s.size : Int) - 1) = ((s.size - 1 : Nat) : Int) := by unfold wrap64; omega
  rw [has_suffix s hs 37 t h, e0, hw]
  simp only [Option.bind_some]
  rw [if_pos trivial, if_pos (by omega), if_pos (by omega), Int.toNat_natCast, sub_zero_end, h, show s.size - 1 = t.length by omega, List.take_left]
  rfl
theorem cutsuf_no (s : ByteArray) (hs : s.size ≤ 140737488351232) (h : ¬ ∃ t, bl s = t ++ [37]) : strings_CutSuffix.f s pc = some (s, false) := by
  unfold strings_CutSuffix.f stringslite_CutSuffix.f
  rw [has_suffix_no s hs 37 h]
  simp only [Option.bind_some]
  rw [if_neg (by decide)]
  rfl
/-! ### the value -/
theorem val_zeros (l : List UInt8) (n : Nat) : val (l ++ List.replicate n 48) = val l * 10 ^ n := by
  induction n with
  | zero => simp
  | succ n ih =>
    have e : val (l ++ List.replicate (n + 1) 48) = valA (val (l ++ List.replicate n 48)) [48] := by
      rw [List.replicate_succ', ← List.append_assoc]
      exact valA_app 0 _ _
    rw [e, valA_cons, valA_nil, ih, Nat.pow_succ]
    show _ * 10 + (48 - 48) = _
    rw [Nat.sub_self, Nat.add_zero, Nat.mul_assoc]
theorem zeros_dig (n : Nat) : (List.replicate n (48 : UInt8)).all dig = true := by
  rw [List.all_replicate]
  split
  · rfl
  · decide
theorem rate_l0' (w : List UInt8) (hw : w.all dig = true) (hne : w ≠ []) (hl : w.length ≤ 3) : ∀ (d k : Nat) (p : List UInt8), p.all dig = true → p.length + d = 4 → d < k →
    token_Rate.l0 k (mkb w) (mkb p) = some (if rateV w p > 1000000 then (0, 1) else ((rateV w p : Int), 0)) := by
  intro d
  induction d with
  | zero =>
    intro k p hp hl2 hk
    obtain ⟨k, rfl⟩ : ∃ m, k = m + 1 := ⟨k - 1, by omega⟩
    simp only [token_Rate.l0]
    rw [if_neg (by rw [mkb_size]; omega), if_pos (by rw [mkb_size, mkb_size]; omega)]
    have hall : (w ++ p).all dig = true := by rw [List.all_append, hw, hp]; rfl
    have hb : bl (mkb w ++ mkb p) = w ++ p := by rw [bl_app]
    have hlt := val_lt (w ++ p) hall
    have h7 : (w ++ p).length ≤ 7 := by rw [List.length_append]; omega
    have hpow : (10 : Nat) ^ (w ++ p).length ≤ 10 ^ 7 := Nat.pow_le_pow_right (by omega) h7
    have e7 : (10 : Nat) ^ 7 = 10000000 := rfl
    have hat : strconv_Atoi.f (mkb w ++ mkb p) = some ((val (w ++ p) : Int), none) := by
      unfold strconv_Atoi.f
      have hsz : (mkb w ++ mkb p).size = (w ++ p).length := by rw [← bl_len, hb]
      rw [if_pos (by rw [hsz]; omega), show (mkb w ++ mkb p).data.toList = w ++ p from hb, atoi_dig _ hall (by simp [hne]) (by omega)]
    rw [hat]
    simp only [Option.bind_some]
    have er : rateV w p = val (w ++ p) := by unfold rateV; rw [show 4 - p.length = 0 by omega, Nat.pow_zero, Nat.mul_one]
    rw [er]
    generalize val (w ++ p) = v at *
    by_cases h : v > 1000000
    · rw [if_pos (show (v : Int) > 1000000 by omega), if_pos h]
    · rw [if_neg (show ¬ (v : Int) > 1000000 by omega), if_neg h]
  | succ d ih =>
    intro k p hp hl2 hk
    obtain ⟨k, rfl⟩ : ∃ m, k = m + 1 := ⟨k - 1, by omega⟩
    simp only [token_Rate.l0]
    rw [if_pos (by rw [mkb_size]; omega), if_pos (by rw [mkb_size]; omega)]
    have e : mkb p ++ (⟨#[48]⟩ : ByteArray) = mkb (p ++ [48]) := bl_inj (by rw [bl_app, bl_mkb])
    rw [e, ih k (p ++ [48]) (by rw [List.all_append, hp]; decide) (by rw [List.length_append, List.length_singleton]; omega) (by omega)]
    have er : rateV w (p ++ [48]) = rateV w p := by
      have e1 : val (w ++ (p ++ [48])) = val (w ++ p) * 10 := by
        rw [← List.append_assoc]
        have := val_zeros (w ++ p) 1
        simpa using this
      unfold rateV
      rw [e1, List.length_append, List.length_singleton, show 4 - p.length = (4 - (p.length + 1)) + 1 by omega, Nat.pow_succ]
      generalize 10 ^ (4 - (p.length + 1)) = q
      rw [Nat.mul_assoc, Nat.mul_comm 10 q]
    rw [er]
theorem rateV_big {w p : List UInt8} (hi : intL w = true) (hp : p.length ≤ 4) (h : 3 < w.length) : rateV w p > 1000000 := by
  have h1 := val_ge w hi (by omega)
  have h2 : (10 : Nat) ^ 3 ≤ 10 ^ (w.length - 1) := Nat.pow_le_pow_right (by omega) (by omega)
  have e3 : (10 : Nat) ^ 3 = 1000 := rfl
  have h3 : val (w ++ p) = val w * 10 ^ p.length + val p := (valA_app 0 w p).trans (valA_eq p _)
  have h4 : val w * 10 ^ p.length ≤ val (w ++ p) := by omega
  have h5 : val w * 10 ^ p.length * 10 ^ (4 - p.length) ≤ rateV w p := Nat.mul_le_mul_right _ h4
  rw [Nat.mul_assoc, ← Nat.pow_add, show p.length + (4 - p.length) = 4 by omega] at h5
  have e4 : (10 : Nat) ^ 4 = 10000 := rfl
  omega
theorem j0_false (w p : List UInt8) (hi : intL w = true) (hp : p.all dig = true) (hl : p.length ≤ 4) (k : Nat) (hk : 10 < k) : token_Rate.j0 k (mkb w) (mkb p) false = some (rateR w p) := by
  obtain ⟨k, rfl⟩ : ∃ m, k = m + 1 := ⟨k - 1, by omega⟩
  simp only [token_Rate.j0]
  rw [if_neg (by decide), mkb_size]
  unfold rateR
  by_cases h : w.length > 3
  · rw [if_pos (by omega), if_pos (rateV_big hi hl h)]
  · rw [if_neg (by omega), rate_l0' w (intL_all hi) (intL_ne hi) (by omega) (4 - p.length) k p hp (by omega) (by omega)]
theorem j0_true (x y : ByteArray) (k : Nat) (hk : 0 < k) : token_Rate.j0 k x y true = some (0, 2) := by
  obtain ⟨k, rfl⟩ : ∃ m, k = m + 1 := ⟨k - 1, by omega⟩
  simp only [token_Rate.j0]
  rw [if_pos trivial]
/-- What stands ahead of the '%'. -/
theorem Pct.ahead {l w p t : List UInt8} (h : Pct l w p) (e : l = t ++ [37]) : t = w ++ (if p = [] then [] else 46 :: p) := by
  have e2 := h.eq
  by_cases hp : p = []
  · rw [if_pos hp] at e2 ⊢
    rw [List.append_nil]
    rw [e] at e2
    exact List.append_cancel_right e2
  · rw [if_neg hp] at e2 ⊢
    rw [e, List.cons_append, ← List.cons_append, ← List.append_assoc] at e2
    exact List.append_cancel_right e2
theorem Pct.ends {l w p : List UInt8} (h : Pct l w p) : ∃ t, l = t ++ [37] := by
  have e2 := h.eq
  by_cases hp : p = []
  · rw [if_pos hp] at e2; exact ⟨_, e2⟩
  · rw [if_neg hp] at e2
    exact ⟨w ++ 46 :: p, by rw [e2]; simp⟩
theorem tok_Rate (s : ByteArray) (hs : s.size < 4294967281) (k : Nat) (hk : 10 < k) :
    (∃ w p, Pct (bl s) w p ∧ token_Rate.f k s = some (rateR w p)) ∨ ((¬ ∃ w p, Pct (bl s) w p) ∧ token_Rate.f k s = some (0, 2)) := by
  unfold token_Rate.f
  by_cases h1 : ∃ t, bl s = t ++ [37]
  · obtain ⟨t, ht⟩ := h1
    have hl : s.size = t.length + 1 := by rw [← bl_len, ht]; simp
    rw [show strings_CutSuffix.f s (⟨#[37]⟩ : ByteArray) = some (mkb t, true) from cutsuf_yes s (by omega) t ht]
    simp only [Option.bind_some]
    have hd : (⟨#[46]⟩ : ByteArray).data.toList = [46] := rfl
    by_cases h2 : (46 : UInt8) ∈ t
    · obtain ⟨a, b, e, ha⟩ := split_at 46 t h2
      have hab : t.length = a.length + b.length + 1 := by rw [e]; simp; omega
      have hcut : strings_Cut.f (mkb t) (⟨#[46]⟩ : ByteArray) = some (mkb a, mkb b, true) := by
        unfold strings_Cut.f
        rw [if_pos (by rw [mkb_size]; omega), hd, show (mkb t).data.toList = a ++ 46 :: b from e, cut_c 46 a b ha]
      rw [hcut]
      simp only [Option.bind_some]
      rw [if_pos trivial, tok_integer _ (by rw [mkb_size]; omega), bl_mkb]
      simp only [Option.bind_some]
      have hp2 : ∀ w p, Pct (bl s) w p → w = a ∧ p = b := by
        intro w p hP
        have e1 := hP.ahead ht
        have hnd := no_dot (intL_all hP.int)
        by_cases hp : p = []
        · rw [if_pos hp, List.append_nil] at e1
          rw [e1] at h2
          exact absurd h2 hnd
        · rw [if_neg hp, e] at e1
          obtain ⟨e3, e4⟩ := split_uniq 46 a w b p ha hnd e1
          exact ⟨e3.symm, e4.symm⟩
      by_cases hi : intL a = true
      · rw [hi, if_pos rfl, if_pos trivial, toList_bl, bl_mkb, mkb_size]
        by_cases hb0 : b = []
        · rw [if_pos hb0, j0_true _ _ k (by omega)]
          refine .inr ⟨?_, rfl⟩
          rintro ⟨w, p, hP⟩
          obtain ⟨rfl, rfl⟩ := hp2 w p hP
          have e1 := hP.ahead ht
          rw [if_pos hb0, List.append_nil] at e1
          rw [e1] at h2
          exact no_dot (intL_all hP.int) h2
        · rw [if_neg hb0]
          by_cases hb4 : b.length > 4
          · rw [if_pos (by omega), j0_true _ _ k (by omega)]
            refine .inr ⟨?_, rfl⟩
            rintro ⟨w, p, hP⟩
            obtain ⟨rfl, rfl⟩ := hp2 w p hP
            have := hP.len
            omega
          · rw [if_neg (by omega)]
            rw [prefix_dig _ (by rw [mkb_size]; omega)]
            simp only [Option.bind_some]
            have e1 : (mkb ((bl (mkb b)).takeWhile dig)).toList = b.takeWhile dig := by rw [toList_bl]
            rw [e1]
            by_cases hbd : b.takeWhile dig = b
            · have hbd2 := (tw_eq_iff dig b).1 hbd
              have hbl : 0 < b.length := List.length_pos_iff.2 hb0
              have hw : wrap64 ((b.length : Int) - 1) = ((b.length - 1 : Nat) : Int) := by unfold wrap64; omega
              rw [if_pos hbd, hw, if_pos (by omega), if_pos (by omega), bt_bl, bl_mkb]
              by_cases hz : at0 b (b.length - 1) = 48
              · rw [hz, show ((48 : Int) == 48) = true from rfl, j0_true _ _ k (by omega)]
                refine .inr ⟨?_, rfl⟩
                rintro ⟨w, p, hP⟩
                obtain ⟨rfl, rfl⟩ := hp2 w p hP
                exact hP.last hb0 hz
              · rw [beq_eq_false_iff_ne.2 hz, j0_false a b hi hbd2 (by omega) k hk]
                refine .inl ⟨a, b, ⟨hi, hbd2, by omega, fun _ => hz, ?_⟩, rfl⟩
                rw [if_neg hb0]
                refine ht.trans ?_
                rw [e]
                simp
            · rw [if_neg hbd, j0_true _ _ k (by omega)]
              refine .inr ⟨?_, rfl⟩
              rintro ⟨w, p, hP⟩
              obtain ⟨rfl, rfl⟩ := hp2 w p hP
              exact hbd (tw_eq_of_all dig _ hP.dig)
      · have hi2 : intL a = false := by simpa using hi
        rw [hi2, if_neg (by decide), j0_true _ _ k (by omega)]
        refine .inr ⟨?_, rfl⟩
        rintro ⟨w, p, hP⟩
        obtain ⟨rfl, rfl⟩ := hp2 w p hP
        exact hi hP.int
    · have hcut : strings_Cut.f (mkb t) (⟨#[46]⟩ : ByteArray) = some (mkb t, mkb [], false) := by
        unfold strings_Cut.f
        rw [if_pos (by rw [mkb_size]; omega), hd, show (mkb t).data.toList = t from rfl, cut_no 46 t h2]
      rw [hcut]
      simp only [Option.bind_some]
      rw [if_pos trivial, tok_integer _ (by rw [mkb_size]; omega), bl_mkb]
      simp only [Option.bind_some]
      have hp2 : ∀ w p, Pct (bl s) w p → w = t ∧ p = [] := by
        intro w p hP
        have e1 := hP.ahead ht
        by_cases hp : p = []
        · rw [if_pos hp, List.append_nil] at e1
          exact ⟨e1.symm, hp⟩
        · rw [if_neg hp] at e1
          rw [e1] at h2
          simp at h2
      by_cases hi : intL t = true
      · rw [hi, if_pos rfl, if_neg (by decide), j0_false t [] hi rfl (by simp) k hk]
        refine .inl ⟨t, [], ⟨hi, rfl, by simp, fun h => absurd rfl h, ?_⟩, rfl⟩
        rw [if_pos rfl]
        exact ht
      · have hi2 : intL t = false := by simpa using hi
        rw [hi2, if_neg (by decide), j0_true _ _ k (by omega)]
        refine .inr ⟨?_, rfl⟩
        rintro ⟨w, p, hP⟩
        obtain ⟨rfl, rfl⟩ := hp2 w p hP
        exact hi hP.int
  · rw [show strings_CutSuffix.f s (⟨#[37]⟩ : ByteArray) = some (s, false) from cutsuf_no s (by omega) h1]
    simp only [Option.bind_some]
    have : ∃ x, strings_Cut.f s (⟨#[46]⟩ : ByteArray) = some x := by
      unfold strings_Cut.f
      rw [if_pos hs]
      exact ⟨_, rfl⟩
    obtain ⟨x, hx⟩ := this
    rw [hx]
    simp only [Option.bind_some]
    rw [if_neg (by decide), j0_true _ _ k (by omega)]
    exact .inr ⟨fun ⟨w, p, hP⟩ => h1 hP.ends, rfl⟩
/-- The two percentages are the same. -/
theorem rate_same (s : ByteArray) (hs : s.size < 4294967281) (k : Nat) (hk : s.size + 10 < k) : token_Rate.f k s = corebankref09_Rate.f k s := by
  rcases tok_Rate s hs k (by omega) with ⟨w, p, hP, h⟩ | ⟨hn, h⟩
  · rw [h, ref_Rate s (by omega) k hk w p hP]
  · rw [h, ref_Rate_no s (by omega) k hk hn]
end Go.Proofs.YtmcebojboffdoaaGreatDoor.P
