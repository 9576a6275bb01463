/-
  What a percentage is, and its value: the reference's and the program's Rate are the same. Conditions: at most 2^47 bytes.
-/
import Derived.Test.YtmcebojboffdoaaGreatDoorQb
namespace Go.Proofs.YtmcebojboffdoaaGreatDoor.P
set_option linter.unusedVariables false
set_option linter.unusedSimpArgs false
open Go.RowKit Go.Proofs.YtmcebojboffdoaaGreatDoorW.PrintWords Go.Proofs.YtmcebojboffdoaaGreatDoorW.PrintLast Go.Proofs.YtmcebojboffdoaaGreatDoorW.PrintMore
theorem at0_eq (l : List UInt8) (i : Nat) (h : i < l.length) : at0 l i = (l[i].toNat : Int) := by
  unfold at0
  rw [List.getD_eq_getElem?_getD, List.getElem?_eq_getElem h]
  rfl
theorem at0_app_lt (a b : List UInt8) (i : Nat) (h : i < a.length) : at0 (a ++ b) i = at0 a i := by
  rw [at0_eq _ _ (by simp; omega), at0_eq _ _ h, List.getElem_append_left h]
theorem at0_app_ge (a b : List UInt8) (i : Nat) (h : a.length ≤ i) : at0 (a ++ b) i = at0 b (i - a.length) := by
  unfold at0
  rw [List.getD_eq_getElem?_getD, List.getD_eq_getElem?_getD, List.getElem?_append_right h]
theorem at0_last (a : List UInt8) (c : UInt8) : at0 (a ++ [c]) ((a ++ [c]).length - 1) = (c.toNat : Int) := by
  rw [at0_app_ge _ _ _ (by simp)]
  simp [at0]
theorem byte_of {c : UInt8} {n : Nat} (h : (c.toNat : Int) = n) (hn : n < 256) : c = UInt8.ofNat n := by
  apply UInt8.toNat_inj.1
  rw [UInt8.toNat_ofNat', Nat.mod_eq_of_lt (by omega)]
  omega
/-- What stands behind the whole part. -/
def tailOf (p : List UInt8) : List UInt8 := if p = [] then [37] else 46 :: p ++ [37]
theorem tailOf_head (p : List UInt8) : ∀ x, (tailOf p).head? = some x → dig x = false := by
  intro x hx
  unfold tailOf at hx
  split at hx
  · simp at hx; subst hx; decide
  · simp at hx; subst hx; decide
theorem intL_head {w : List UInt8} (h : intL w = true) (h2 : 1 < w.length) : at0 w 0 ≠ 48 := by
  cases w with
  | nil => simp at h2
  | cons b w =>
    intro e
    have e2 : b = 48 := byte_of (n := 48) (by simpa [at0] using e) (by decide)
    subst e2
    unfold intL at h
    have : w ≠ [] := by rintro rfl; simp at h2
    simp [this] at h
theorem plainL_pct {l w p : List UInt8} (hi : intL w = true) (e : l = w ++ tailOf p) : plainL l = w.length := by
  have htw : l.takeWhile dig = w := by rw [e]; exact tw_app dig w _ (intL_all hi) (tailOf_head p)
  unfold plainL
  rw [htw]
  refine if_neg ?_
  rintro ⟨h1, h2⟩
  rw [e, at0_app_lt _ _ _ (by omega)] at h2
  exact intL_head hi h1 h2
theorem midL_pct {l w p : List UInt8} (hi : intL w = true) (e : l = w ++ tailOf p) : midL l = if p = [] then [] else 46 :: p := by
  unfold midL
  rw [plainL_pct hi e, e, List.drop_left, List.length_append]
  unfold tailOf
  split
  · simp
  · have e2 : w.length + (46 :: p ++ [37]).length - 1 - w.length = (46 :: p).length := by
      have : (46 :: p ++ [37]).length = (46 :: p).length + 1 := by simp
      omega
    rw [e2, List.take_left]
theorem formL_of_pct {l w p : List UInt8} (h : Pct l w p) : formL l = true := by
  obtain ⟨hi, hd, hl, hlast, e⟩ := h
  have e' : l = w ++ tailOf p := e
  have hw : 0 < w.length := List.length_pos_iff.2 (intL_ne hi)
  have hlst : at0 l (l.length - 1) = 37 := by
    have : ∃ a, l = a ++ [37] := by
      rw [e]
      split
      · exact ⟨w, rfl⟩
      · exact ⟨w ++ 46 :: p, by simp⟩
    obtain ⟨a, rfl⟩ := this
    exact at0_last a 37
  unfold formL
  rw [plainL_pct hi e', if_neg (by omega), if_neg (fun h => h hlst), midL_pct hi e']
  by_cases hp : p = []
  · rw [if_pos hp, if_pos rfl]
  · rw [if_neg hp, if_neg (by simp)]
    have hpl : 0 < p.length := List.length_pos_iff.2 hp
    have h1 : at0 (46 :: p) ((46 :: p).length - 1) = at0 p (p.length - 1) := by
      have := at0_app_ge [46] p ((46 :: p).length - 1) (by simp; omega)
      simpa using this
    rw [if_neg]
    · simpa using hd
    · rintro (h | h | h | h)
      · simp at h; omega
      · simp at h; omega
      · exact h rfl
      · rw [h1] at h; exact hlast hp h
theorem pct_of_formL {l : List UInt8} (h : formL l = true) : ∃ w p, Pct l w p := by
  unfold formL at h
  by_cases h0 : plainL l = 0
  · rw [if_pos h0] at h; cases h
  rw [if_neg h0] at h
  have h1 : at0 l (l.length - 1) = 37 := Classical.byContradiction fun g => by rw [if_pos g] at h; cases h
  rw [if_neg (fun g => g h1)] at h
  have hn : plainL l = (l.takeWhile dig).length := by
    unfold plainL at h0 ⊢
    split at h0
    · exact absurd rfl h0
    · rename_i hc; rw [if_neg hc]
  have hno : ¬ (1 < (l.takeWhile dig).length ∧ at0 l 0 = 48) := by
    unfold plainL at h0
    split at h0
    · exact absurd rfl h0
    · assumption
  have hl : l = l.takeWhile dig ++ l.dropWhile dig := (List.takeWhile_append_dropWhile).symm
  have hw0 : 0 < (l.takeWhile dig).length := by omega
  have hint : intL (l.takeWhile dig) = true := by
    have hne : l.takeWhile dig ≠ [] := List.length_pos_iff.1 hw0
    unfold intL
    rw [tw_all]
    have e1 : (l.takeWhile dig).isEmpty = false := by simpa using hne
    rw [e1]
    by_cases h2 : (l.takeWhile dig).length = 1
    · simp [h2]
    · have h3 : at0 l 0 ≠ 48 := fun g => hno ⟨by omega, g⟩
      rw [hl, at0_app_lt _ _ _ hw0] at h3
      have h4 : (l.takeWhile dig).head? ≠ some 48 := by
        intro g
        apply h3
        cases hh : l.takeWhile dig with
        | nil => rw [hh] at g; simp at g
        | cons a t => rw [hh] at g; simp at g; subst g; rfl
      simpa [h2] using h4
  have hdrop : l.drop (plainL l) = l.dropWhile dig := by rw [hn, drop_tw]
  -- behind the digits stands something, and it ends in '%'
  have hr : l.dropWhile dig ≠ [] := by
    intro g
    rw [g, List.append_nil] at hl
    have h2 : 0 < l.length := by rw [hl]; exact hw0
    have h3 : dig (l[l.length - 1]'(by omega)) = true := by
      have := tw_all dig l
      rw [← hl] at this
      exact List.all_eq_true.1 this _ (List.getElem_mem _)
    rw [at0_eq _ _ (by omega)] at h1
    have := dig_range h3
    omega
  obtain ⟨r, c, hrc⟩ : ∃ r c, l.dropWhile dig = r ++ [c] := ⟨_, _, (List.dropLast_concat_getLast hr).symm⟩
  have hl2 : l = (l.takeWhile dig ++ r) ++ [c] := by rw [List.append_assoc, ← hrc]; exact hl
  have hc : c = 37 := by
    rw [hl2, at0_last] at h1
    exact byte_of (n := 37) h1 (by decide)
  subst hc
  have hlen : l.length = (l.takeWhile dig).length + r.length + 1 := by
    have := congrArg List.length hl2
    rw [List.length_append, List.length_append, List.length_singleton] at this
    exact this
  have hm : midL l = r := by
    unfold midL
    rw [hdrop, hrc, hn, show l.length - 1 - (l.takeWhile dig).length = r.length by omega, List.take_left]
  rw [hm] at h
  by_cases h3 : r = []
  · exact ⟨l.takeWhile dig, [], hint, rfl, by simp, fun g => absurd rfl g, by rw [if_pos rfl]; rw [hrc, h3] at hl; exact hl⟩
  · rw [if_neg h3] at h
    by_cases h4 : r.length < 2 ∨ r.length > 5 ∨ at0 r 0 ≠ 46 ∨ at0 r (r.length - 1) = 48
    · rw [if_pos h4] at h; cases h
    · rw [if_neg h4] at h
      cases r with
      | nil => exact absurd rfl h3
      | cons b p =>
        have h5 : 2 ≤ (b :: p).length := Nat.le_of_not_lt fun g => h4 (.inl g)
        have h6 : (b :: p).length ≤ 5 := Nat.le_of_not_lt fun g => h4 (.inr (.inl g))
        have h7 : at0 (b :: p) 0 = 46 := Classical.byContradiction fun g => h4 (.inr (.inr (.inl g)))
        have h8 : at0 (b :: p) ((b :: p).length - 1) ≠ 48 := fun g => h4 (.inr (.inr (.inr g)))
        have hb : b = 46 := byte_of (n := 46) (by simpa [at0] using h7) (by decide)
        subst hb
        simp only [List.length_cons] at h5 h6
        have hp : p ≠ [] := by rintro rfl; simp at h5
        refine ⟨l.takeWhile dig, p, hint, by simpa using h, by omega, fun _ g => h8 ?_, ?_⟩
        · have := at0_app_ge [46] p ((46 :: p).length - 1) (by simp; omega)
          rw [List.singleton_append] at this
          rw [this]
          simpa using g
        · rw [if_neg hp]
          rw [hrc] at hl
          simpa using hl
theorem no_pct {l : List UInt8} (h : ¬ ∃ w p, Pct l w p) : formL l = false := by
  cases hf : formL l with
  | false => rfl
  | true => exact absurd (pct_of_formL hf) h
/-! ### the value -/
def rateV (w p : List UInt8) : Nat := val (w ++ p) * 10 ^ (4 - p.length)
def rateR (w p : List UInt8) : Int × Int := if rateV w p > 1000000 then (0, 1) else ((rateV w p : Int), 0)
theorem rate_l1 : ∀ (d k n pl : Nat), pl ≤ 4 → 4 - pl = d → d < k → n * 10 ^ (4 - pl) ≤ 10000000000 → corebankref09_Rate.l1 k (n : Int) (pl : Int) = some (if n * 10 ^ (4 - pl) > 1000000 then (0, 1) else (((n * 10 ^ (4 - pl) : Nat) : Int), 0)) := by
  intro d
  induction d with
  | zero =>
    intro k n pl h1 h2 h3 h4
    obtain ⟨k, rfl⟩ : ∃ m, k = m + 1 := ⟨k - 1, by omega⟩
    obtain rfl : pl = 4 := by omega
    simp only [corebankref09_Rate.l1]
    rw [if_neg (by omega), Nat.sub_self, Nat.pow_zero, Nat.mul_one]
    by_cases h : n > 1000000
    · rw [if_pos (by omega), if_pos h]
    · rw [if_neg (by omega), if_neg h]
  | succ d ih =>
    intro k n pl h1 h2 h3 h4
    obtain ⟨k, rfl⟩ : ∃ m, k = m + 1 := ⟨k - 1, by omega⟩
    have e2 : 4 - pl = (4 - (pl + 1)) + 1 := by omega
    have e3 : n * 10 ^ (4 - pl) = 10 * n * 10 ^ (4 - (pl + 1)) := by
      rw [e2, Nat.pow_succ]
      generalize 10 ^ (4 - (pl + 1)) = q
      rw [Nat.mul_comm q 10, ← Nat.mul_assoc, Nat.mul_comm n 10]
    have h5 : n ≤ 10000000000 := by
      have : 0 < 10 ^ (4 - pl) := Nat.pow_pos (by omega)
      generalize 10 ^ (4 - pl) = q at *
      have := Nat.le_mul_of_pos_right n this
      omega
    simp only [corebankref09_Rate.l1]
    have e1 : wrap64 (10 * (n : Int)) = ((10 * n : Nat) : Int) := by unfold wrap64; omega
    rw [e3] at h4 ⊢
    rw [if_pos (by omega), e1, wsucc (by omega)]
    exact ih k (10 * n) (pl + 1) (by omega) (by omega) (by omega) h4
theorem rate_dig (s : ByteArray) (hs : s.size ≤ 140737488351232) (W k i n pl d : Nat) (hd : bt s (i : Int) = (d : Int)) (h0 : 48 ≤ d) (h9 : d ≤ 57) (hi : i + 1 < s.size) (hn : n ≤ 1000000) (hp : pl ≤ 140737488351232) :
    corebankref09_Rate.l0 (k + 1) s (W : Int) (n : Int) (pl : Int) (i : Int) = if n * 10 + (d - 48) > 1000000 then some (0, 1) else corebankref09_Rate.l0 k s (W : Int) ((n * 10 + (d - 48) : Nat) : Int) ((if W < i then pl + 1 else pl : Nat) : Int) ((i + 1 : Nat) : Int) := by
  have e0 : wrap64 (10 * (n : Int)) = ((10 * n : Nat) : Int) := by unfold wrap64; omega
  have e1 : wrap64 (((10 * n : Nat) : Int) + (((d : Int) - 48) % 256)) = ((n * 10 + (d - 48) : Nat) : Int) := by unfold wrap64; omega
  have hsz : wrap64 ((s.size : Int) - 1) = ((s.size - 1 : Nat) : Int) := by unfold wrap64; omega
  have e2 : isDig (d : Int) = true := by unfold isDig; simp only [Bool.and_eq_true, decide_eq_true_eq]; omega
  have e3 : ((d : Int) ≥ 0) := by omega
  simp only [corebankref09_Rate.l0]
  rw [hsz, if_pos (by omega), if_pos (by omega), if_pos (by omega), ref_digit, hd, e2, e0, e1, wsucc (show i < _ by omega), wsucc (show pl < _ by omega)]
  simp only [Option.bind_some]
  rw [if_pos trivial]
  generalize n * 10 + (d - 48) = m
  by_cases hb : m > 1000000
  · rw [if_pos (show (m : Int) > 1000000 by omega), if_pos hb]
  · rw [if_neg (show ¬ (m : Int) > 1000000 by omega), if_neg hb]
    by_cases hw : W < i
    · rw [if_pos (show (i : Int) > (W : Int) by omega), if_pos hw]
    · rw [if_neg (show ¬ (i : Int) > (W : Int) by omega), if_neg hw]
theorem rate_dot (s : ByteArray) (hs : s.size ≤ 140737488351232) (W k i : Nat) (x y : Int) (hd : isDig (bt s (i : Int)) = false) (hi : i + 1 < s.size) :
    corebankref09_Rate.l0 (k + 1) s (W : Int) x y (i : Int) = corebankref09_Rate.l0 k s (W : Int) x y ((i + 1 : Nat) : Int) := by
  have hsz : wrap64 ((s.size : Int) - 1) = ((s.size - 1 : Nat) : Int) := by unfold wrap64; omega
  simp only [corebankref09_Rate.l0]
  rw [hsz, if_pos (by omega), if_pos (by omega), if_pos (by omega), ref_digit, hd, wsucc (show i < _ by omega)]
  simp only [Option.bind_some]
  rw [if_neg (by decide)]
theorem rate_fin (s : ByteArray) (hs : s.size ≤ 140737488351232) (h0 : 0 < s.size) (W k i : Nat) (x y : Int) (hi : i + 1 = s.size) :
    corebankref09_Rate.l0 (k + 1) s (W : Int) x y (i : Int) = corebankref09_Rate.l1 k x y := by
  have hsz : wrap64 ((s.size : Int) - 1) = ((s.size - 1 : Nat) : Int) := by unfold wrap64; omega
  simp only [corebankref09_Rate.l0]
  rw [hsz, if_neg (by omega)]
theorem drop_cons {α : Type} {l : List α} {i : Nat} {b : α} {r : List α} (h : l.drop i = b :: r) : ∃ hi : i < l.length, l[i] = b ∧ l.drop (i + 1) = r := by
  have hi : i < l.length := by
    rcases Nat.lt_or_ge i l.length with g | g
    · exact g
    · rw [List.drop_of_length_le g] at h; cases h
  have h1 := List.drop_eq_getElem_cons hi
  rw [h] at h1
  simp only [List.cons.injEq] at h1
  exact ⟨hi, h1.1.symm, h1.2.symm⟩
/-- A run of digits, all before or all behind the point. -/
theorem rate_run (s : ByteArray) (hs : s.size ≤ 140737488351232) (W a : Nat) (back : Bool) : ∀ (ds r : List UInt8) (k i n pl : Nat), ds.all dig = true → (bl s).drop i = ds ++ r → i + ds.length < s.size → n ≤ 1000000 → pl + ds.length ≤ 140737488351232 →
    (if back then W < i else i + ds.length ≤ W + 1) → ds.length < k →
    corebankref09_Rate.l0 k s (W : Int) (n : Int) (pl : Int) (i : Int) = if valA n ds > 1000000 then some (0, 1) else corebankref09_Rate.l0 (k - ds.length) s (W : Int) (valA n ds : Int) ((if back then pl + ds.length else pl : Nat) : Int) ((i + ds.length : Nat) : Int) := by
  intro ds
  induction ds with
  | nil =>
    intro r k i n pl _ _ _ hn _ _ _
    rw [valA_nil, if_neg (show ¬ n > 1000000 by omega)]
    cases back <;> rfl
  | cons b ds ih =>
    intro r k i n pl hd hdrop hlen hn hpl hW hk
    simp only [List.length_cons] at hlen hpl hW hk ⊢
    simp only [List.all_cons, Bool.and_eq_true] at hd
    obtain ⟨k, rfl⟩ : ∃ m, k = m + 1 := ⟨k - 1, by omega⟩
    obtain ⟨hi, hb, hdrop2⟩ := drop_cons (show (bl s).drop i = b :: (ds ++ r) from hdrop)
    have hbt : bt s (i : Int) = (b.toNat : Int) := by rw [bt_list s i hi, hb]
    have hr := dig_range hd.1
    rw [rate_dig s hs W k i n pl b.toNat hbt hr.1 hr.2 (by omega) hn (by omega), valA_cons]
    have hge := valA_ge ds (n * 10 + (b.toNat - 48))
    generalize n * 10 + (b.toNat - 48) = m at *
    by_cases hbig : m > 1000000
    · rw [if_pos hbig, if_pos (show valA m ds > 1000000 by omega)]
    · rw [if_neg hbig]
      cases back with
      | true =>
        simp only [if_true] at hW ⊢
        rw [if_pos hW, ih r k (i + 1) m (pl + 1) hd.2 hdrop2 (by omega) (by omega) (by omega) (by simp only [if_true]; omega) (by omega)]
        simp only [if_true]
        rw [show pl + 1 + ds.length = pl + (ds.length + 1) by omega, show i + 1 + ds.length = i + (ds.length + 1) by omega, show k + 1 - (ds.length + 1) = k - ds.length by omega]
      | false =>
        simp only [Bool.false_eq_true, if_false] at hW ⊢
        rw [if_neg (show ¬ W < i by omega), ih r k (i + 1) m pl hd.2 hdrop2 (by omega) (by omega) (by omega) (by simp only [Bool.false_eq_true, if_false]; omega) (by omega)]
        simp only [Bool.false_eq_true, if_false]
        rw [show i + 1 + ds.length = i + (ds.length + 1) by omega, show k + 1 - (ds.length + 1) = k - ds.length by omega]
theorem l1_eq (k n pl : Nat) (h1 : pl ≤ 4) (h2 : 4 < k) (h3 : n ≤ 1000000) : corebankref09_Rate.l1 k (n : Int) (pl : Int) = some (if n * 10 ^ (4 - pl) > 1000000 then (0, 1) else (((n * 10 ^ (4 - pl) : Nat) : Int), 0)) := by
  refine rate_l1 (4 - pl) k n pl h1 rfl (by omega) ?_
  have h4 : 10 ^ (4 - pl) ≤ 10 ^ 4 := Nat.pow_le_pow_right (by omega) (by omega)
  have := Nat.mul_le_mul h3 h4
  have e : (10 : Nat) ^ 4 = 10000 := rfl
  omega
theorem rateV_ge (w p : List UInt8) (h : p.length ≤ 4) : val (w ++ p) ≤ rateV w p := by
  unfold rateV
  exact Nat.le_mul_of_pos_right _ (Nat.pow_pos (by omega))
/-- The reference's percentage. -/
theorem ref_Rate (s : ByteArray) (hs : s.size ≤ 140737488351232) (k : Nat) (hk : s.size + 10 < k) (w p : List UInt8) (h : Pct (bl s) w p) : corebankref09_Rate.f k s = some (rateR w p) := by
  have h' := h
  obtain ⟨hi, hd, hl, hlast, e⟩ := h
  unfold corebankref09_Rate.f
  rw [form_eq s hs k (by omega), formL_of_pct h']
  simp only [Option.bind_some]
  have et : bl s = w ++ tailOf p := e
  rw [if_pos trivial, plain_eq s hs k (by omega), plainL_pct hi et]
  simp only [Option.bind_some]
  have hsz : s.size = w.length + (tailOf p).length := by rw [← bl_len, et, List.length_append]
  have hge := rateV_ge w p hl
  have hvw := valA_ge p (val w)
  have hva : valA (val w) p = val (w ++ p) := (valA_app 0 w p).symm
  by_cases hp : p = []
  · subst hp
    have et2 : bl s = w ++ [37] := et
    have hsz2 : s.size = w.length + 1 := hsz
    rw [show (0 : Int) = ((0 : Nat) : Int) from rfl, rate_run s hs w.length 0 false w [37] k 0 0 0 (intL_all hi) (by rw [List.drop_zero]; exact et2) (by omega) (by omega) (by omega) (by simp only [Bool.false_eq_true, if_false]; omega) (by omega)]
    simp only [Bool.false_eq_true, if_false]
    show (if val w > 1000000 then _ else corebankref09_Rate.l0 _ s _ (val w : Int) _ _) = _
    rw [valA_nil] at hva
    unfold rateR
    by_cases hb : val w > 1000000
    · rw [if_pos hb, if_pos (show rateV w [] > 1000000 by omega)]
    · rw [if_neg hb, show k - w.length = (k - w.length - 1) + 1 by omega, rate_fin s hs (by omega) w.length _ _ _ _ (by omega), l1_eq _ _ _ (by omega) (by omega) (by omega)]
      have er : rateV w [] = val w * 10 ^ (4 - 0) := by unfold rateV; rw [List.append_nil]; rfl
      rw [er]
  · have ht : tailOf p = 46 :: p ++ [37] := by unfold tailOf; rw [if_neg hp]
    rw [ht] at et hsz
    simp only [List.length_append, List.length_cons, List.length_nil] at hsz
    rw [show (0 : Int) = ((0 : Nat) : Int) from rfl, rate_run s hs w.length 0 false w (46 :: p ++ [37]) k 0 0 0 (intL_all hi) (by rw [List.drop_zero]; exact et) (by omega) (by omega) (by omega) (by simp only [Bool.false_eq_true, if_false]; omega) (by omega)]
    simp only [Bool.false_eq_true, if_false]
    show (if val w > 1000000 then _ else corebankref09_Rate.l0 _ s _ (val w : Int) _ _) = _
    unfold rateR
    by_cases hb : val w > 1000000
    · rw [if_pos hb, if_pos (show rateV w p > 1000000 by omega)]
    · have hdr : (bl s).drop w.length = 46 :: (p ++ [37]) := by rw [et, List.drop_left]; rfl
      obtain ⟨hlt, hdot, hdr2⟩ := drop_cons hdr
      have hbt : isDig (bt s (w.length : Int)) = false := by rw [bt_list s w.length hlt, hdot]; decide
      rw [if_neg hb, Nat.zero_add, show k - w.length = (k - w.length - 1) + 1 by omega, rate_dot s hs w.length _ _ _ _ hbt (by omega), rate_run s hs w.length 0 true p [37] _ (w.length + 1) (val w) 0 hd hdr2 (by omega) (by omega) (by omega) (by simp only [if_true]; omega) (by omega), hva]
      simp only [if_true]
      by_cases hb2 : val (w ++ p) > 1000000
      · rw [if_pos hb2, if_pos (show rateV w p > 1000000 by omega)]
      · rw [if_neg hb2, show k - w.length - 1 - p.length = (k - w.length - 1 - p.length - 1) + 1 by omega, rate_fin s hs (by omega) w.length _ _ _ _ (by omega), l1_eq _ _ _ (by omega) (by omega) (by omega), Nat.zero_add]
        rfl
theorem ref_Rate_no (s : ByteArray) (hs : s.size ≤ 140737488351232) (k : Nat) (hk : s.size + 10 < k) (h : ¬ ∃ w p, Pct (bl s) w p) : corebankref09_Rate.f k s = some (0, 2) := by
  unfold corebankref09_Rate.f
  rw [form_eq s hs k (by omega), no_pct h]
  simp only [Option.bind_some]
  rw [if_neg (by decide)]
end Go.Proofs.YtmcebojboffdoaaGreatDoor.P
