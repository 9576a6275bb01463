/-
  The percentage of a number: the program's and the reference's texts are the same, and their number is the number. Conditions: none.
-/
import Derived.Test.YtmcebojboffdoaaGreatDoorQd
import Derived.Test.YtmcebojboffdoaaGreatDoorP12
import Derived.Test.YtmcebojboffdoaaGreatDoorP31
import Derived.Lib.ItoaMem
namespace Go.Proofs.YtmcebojboffdoaaGreatDoor.P
open Go.RowKit Go.Proofs.YtmcebojboffdoaaGreatDoorW.PrintWords Go.Proofs.YtmcebojboffdoaaGreatDoorW.PrintLast Go.Proofs.YtmcebojboffdoaaGreatDoorW.PrintMore
theorem dig_of {i : Nat} (h : i < 10) : dig (UInt8.ofNat (48 + i)) = true ∧ (UInt8.ofNat (48 + i)).toNat = 48 + i := by
  have e : (UInt8.ofNat (48 + i)).toNat = 48 + i := by rw [UInt8.toNat_ofNat', Nat.mod_eq_of_lt (by omega)]
  exact ⟨(dig_iff _).2 (by omega), e⟩
theorem val_snoc (l : List UInt8) (c : UInt8) : val (l ++ [c]) = val l * 10 + (c.toNat - 48) := by
  have := valA_app 0 l [c]
  rw [valA_cons, valA_nil] at this
  exact this
theorem dec_spec (u : Nat) : intL (Lib.decDigits u) = true ∧ val (Lib.decDigits u) = u := by
  induction u using Nat.strongRecOn with
  | _ u ih =>
    by_cases h : u < 10
    · rw [Lib.decDigits, dif_pos h]
      obtain ⟨h1, h2⟩ := dig_of h
      refine ⟨(intL_iff _).2 ⟨by simp, by rw [List.all_cons, h1]; rfl, .inl rfl⟩, ?_⟩
      have := val_snoc [] (UInt8.ofNat (48 + u))
      rw [List.nil_append, h2] at this
      rw [this]
      show 0 * 10 + _ = _
      omega
    · rw [Lib.decDigits, dif_neg h]
      obtain ⟨i1, i2⟩ := ih (u / 10) (by omega)
      obtain ⟨h1, h2⟩ := dig_of (show u % 10 < 10 by omega)
      obtain ⟨n1, n2, n3⟩ := (intL_iff _).1 i1
      refine ⟨(intL_iff _).2 ⟨by simp, by rw [List.all_append, n2, List.all_cons, h1]; rfl, .inr ?_⟩, ?_⟩
      · intro g
        cases hl : Lib.decDigits (u / 10) with
        | nil => exact n1 hl
        | cons b t =>
          rw [hl, List.cons_append, List.head?_cons] at g
          have e : b = 48 := Option.some.inj g
          subst e
          rcases n3 with n3 | n3
          · rw [hl] at n3
            have ht : t = [] := by simpa using n3
            subst ht
            rw [hl] at i2
            have : val [48] = 0 := rfl
            omega
          · rw [hl] at n3
            exact n3 rfl
      · rw [val_snoc, i2, h2]
        omega
theorem dig_uniq : ∀ (a b : List UInt8), a.all dig = true → b.all dig = true → a.length = b.length → val a = val b → a = b
  | [], [], _, _, _, _ => rfl
  | [], y :: b, _, _, h, _ => by simp at h
  | x :: a, [], _, _, h, _ => by simp at h
  | x :: a, y :: b, ha, hb, hl, hv => by
    simp only [List.all_cons, Bool.and_eq_true] at ha hb
    simp only [List.length_cons, Nat.add_right_cancel_iff] at hl
    have hx := dig_range ha.1
    have hy := dig_range hb.1
    have va := val_lt a ha.2
    have vb := val_lt b hb.2
    rw [val_cons, val_cons, ← hl] at hv
    rw [← hl] at vb
    generalize hq : 10 ^ a.length = q at *
    have hxy : x.toNat = y.toNat := by
      rcases Nat.lt_trichotomy x.toNat y.toNat with h | h | h
      · have := Nat.mul_le_mul_right q (show (x.toNat - 48) + 1 ≤ y.toNat - 48 by omega)
        rw [Nat.add_mul, Nat.one_mul] at this
        omega
      · exact h
      · have := Nat.mul_le_mul_right q (show (y.toNat - 48) + 1 ≤ x.toNat - 48 by omega)
        rw [Nat.add_mul, Nat.one_mul] at this
        omega
    rw [hxy] at hv
    rw [UInt8.toNat_inj.1 hxy, dig_uniq a b ha.2 hb.2 hl (by omega)]
theorem int_len {a b : List UInt8} (ha : intL a = true) (hb : intL b = true) (h : val a = val b) : b.length ≤ a.length := by
  rcases Nat.lt_or_ge a.length b.length with g | g
  · exfalso
    have h0 : 0 < a.length := List.length_pos_iff.2 (intL_ne ha)
    have h1 := val_lt a (intL_all ha)
    have h2 := val_ge b hb (by omega)
    have h3 : (10 : Nat) ^ a.length ≤ 10 ^ (b.length - 1) := Nat.pow_le_pow_right (by omega) (by omega)
    omega
  · exact g
theorem int_uniq {a b : List UInt8} (ha : intL a = true) (hb : intL b = true) (h : val a = val b) : a = b :=
  dig_uniq a b (intL_all ha) (intL_all hb) (Nat.le_antisymm (int_len hb ha h.symm) (int_len ha hb h)) h
/-! ### zeros at the end -/
def lastNz (p : List UInt8) : Prop := p ≠ [] → at0 p (p.length - 1) ≠ 48
theorem zeros_ex (l : List UInt8) : ∃ p n, l = p ++ List.replicate n 48 ∧ lastNz p := by
  generalize hd : l.length = d
  induction d generalizing l with
  | zero => exact ⟨[], 0, by rw [List.length_eq_zero_iff.1 hd]; rfl, fun h => absurd rfl h⟩
  | succ d ih =>
    rcases List.eq_nil_or_concat l with h | ⟨a, c, h⟩
    · rw [h] at hd; cases hd
    · rw [List.concat_eq_append] at h
      by_cases hc : c = 48
      · obtain ⟨p, n, e, hp⟩ := ih a (by rw [h] at hd; simpa using hd)
        refine ⟨p, n + 1, ?_, hp⟩
        rw [h, e, hc, List.replicate_succ', List.append_assoc]
      · refine ⟨l, 0, by simp, fun _ g => hc ?_⟩
        rw [h, at0_last] at g
        exact byte_of (n := 48) g (by decide)
theorem drop_reps (n : Nat) (r : List UInt8) (h : ∀ x, r.head? = some x → x ≠ 48) : (List.replicate n 48 ++ r).dropWhile (· == (48 : UInt8)) = r := by
  induction n with
  | zero =>
    rw [List.replicate_zero, List.nil_append]
    cases r with
    | nil => rfl
    | cons x r => rw [List.dropWhile_cons, if_neg (by simpa using h x rfl)]
  | succ n ih => rw [List.replicate_succ, List.cons_append, List.dropWhile_cons, if_pos (by rfl), ih]
theorem trim_zeros (p : List UInt8) (n : Nat) (h : lastNz p) : Lib.trimRightB (p ++ List.replicate n 48) 48 = p := by
  unfold Lib.trimRightB
  rw [List.reverse_append, List.reverse_replicate, drop_reps, List.reverse_reverse]
  intro x hx e
  subst e
  rcases List.eq_nil_or_concat p with g | ⟨a, c, g⟩
  · rw [g] at hx; simp at hx
  · rw [List.concat_eq_append] at g
    rw [g] at hx
    simp at hx
    subst hx
    exact h (by rw [g]; simp) (by rw [g, at0_last]; rfl)
theorem zeros_uniq {p q : List UInt8} {m n : Nat} (hp : lastNz p) (hq : lastNz q) (h : p ++ List.replicate m 48 = q ++ List.replicate n 48) : p = q := by
  rw [← trim_zeros p m hp, h, trim_zeros q n hq]
/-! ### the percentage of a number -/
structure PctV (n : Nat) (w p : List UInt8) : Prop where
  int : intL w = true
  dig : p.all dig = true
  len : p.length ≤ 4
  last : lastNz p
  vw : val w = n / 10000
  vp : val p * 10 ^ (4 - p.length) = n % 10000
theorem PctV.uniq {n : Nat} {w p w' p' : List UInt8} (h : PctV n w p) (h' : PctV n w' p') : w = w' ∧ p = p' := by
  refine ⟨int_uniq h.int h'.int (h.vw.trans h'.vw.symm), ?_⟩
  refine zeros_uniq (m := 4 - p.length) (n := 4 - p'.length) h.last h'.last (dig_uniq _ _ ?_ ?_ ?_ ?_)
  · rw [List.all_append, h.dig, zeros_dig]; rfl
  · rw [List.all_append, h'.dig, zeros_dig]; rfl
  · have := h.len
    have := h'.len
    simp only [List.length_append, List.length_replicate]
    omega
  · rw [val_zeros, val_zeros, h.vp, h'.vp]
theorem PctV.pct {n : Nat} {w p : List UInt8} (h : PctV n w p) : Pct (w ++ tailOf p) w p := ⟨h.int, h.dig, h.len, h.last, rfl⟩
theorem rateV_eq (w p : List UInt8) (h : p.length ≤ 4) : rateV w p = val w * 10000 + val p * 10 ^ (4 - p.length) := by
  have h3 : val (w ++ p) = val w * 10 ^ p.length + val p := (valA_app 0 w p).trans (valA_eq p _)
  unfold rateV
  rw [h3, Nat.add_mul, Nat.mul_assoc, ← Nat.pow_add, show p.length + (4 - p.length) = 4 by omega]
theorem part_lt (p : List UInt8) (hd : p.all dig = true) (h : p.length ≤ 4) : val p * 10 ^ (4 - p.length) < 10000 := by
  have h1 := val_lt p hd
  have h2 : (val p + 1) * 10 ^ (4 - p.length) ≤ 10 ^ p.length * 10 ^ (4 - p.length) := Nat.mul_le_mul_right _ h1
  rw [← Nat.pow_add, show p.length + (4 - p.length) = 4 by omega, Nat.add_mul, Nat.one_mul] at h2
  have h3 : 0 < 10 ^ (4 - p.length) := Nat.pow_pos (by omega)
  have e : (10 : Nat) ^ 4 = 10000 := rfl
  omega
theorem PctV.rate {n : Nat} {w p : List UInt8} (h : PctV n w p) : rateV w p = n := by
  rw [rateV_eq w p h.len, h.vw, h.vp]
  omega
theorem Pct.v {l w p : List UInt8} (h : Pct l w p) : PctV (rateV w p) w p := by
  have e := rateV_eq w p h.len
  have hlt := part_lt p h.dig h.len
  exact ⟨h.int, h.dig, h.len, h.last, by omega, by omega⟩
/-- What both texts are. -/
def pctText (w p : List UInt8) : List UInt8 := w ++ tailOf p
theorem digit_piece (i : Nat) (h : i < 10) : (⟨#[48, 49, 50, 51, 52, 53, 54, 55, 56, 57]⟩ : ByteArray).extract i (i + 1) = mkb [UInt8.ofNat (48 + i)] := by
  have : ∀ j : Fin 10, bl ((⟨#[48, 49, 50, 51, 52, 53, 54, 55, 56, 57]⟩ : ByteArray).extract j.val (j.val + 1)) = [UInt8.ofNat (48 + j.val)] := by decide
  exact bl_inj (this ⟨i, h⟩)
theorem tmod_nat (n : Nat) (m : Nat) : Int.tmod (n : Int) (m : Int) = ((n % m : Nat) : Int) := rfl
theorem tdiv_nat (n : Nat) (m : Nat) : Int.tdiv (n : Int) (m : Int) = ((n / m : Nat) : Int) := rfl
theorem digs_ifs {α : Type} (a b c d : Prop) [Decidable a] [Decidable b] [Decidable c] [Decidable d] (x z y u : Option α) (ha : a) (hb : b) (hc : c) (hd : d) (e : Prop) [Decidable e] (g : Prop) [Decidable g] (h : e ∨ g) (hx : x = u) :
    (if e then (if a then (if b then (if c then (if d then x else none) else none) else none) else none) else (if g then (if a then (if b then (if c then (if d then x else none) else none) else none) else none) else y)) = u := by
  rw [if_pos ha, if_pos hb, if_pos hc, if_pos hd]
  by_cases he : e
  · rw [if_pos he]; exact hx
  · rw [if_neg he, if_pos (h.resolve_left he)]; exact hx
theorem digs_step (k n least : Nat) (acc : List UInt8) (hle : least ≤ 100) (hb : n ≤ 100000000) (hc : acc.length ≤ 100) (hor : n > 0 ∨ acc.length < least) :
    corebankref09_digits.l0 (k + 1) (n : Int) (least : Int) (mkb acc) = corebankref09_digits.l0 k ((n / 10 : Nat) : Int) (least : Int) (mkb (UInt8.ofNat (48 + n % 10) :: acc)) := by
  have hm : n % 10 < 10 := Nat.mod_lt _ (by decide)
  have e10 : Int.tmod (n : Int) 10 = ((n % 10 : Nat) : Int) := tmod_nat n 10
  have d10 : Int.tdiv (n : Int) 10 = ((n / 10 : Nat) : Int) := tdiv_nat n 10
  have hw : wrap64 (((n % 10 : Nat) : Int) + 1) = ((n % 10 + 1 : Nat) : Int) := wsucc (by omega)
  have hw2 : wrap64 ((n / 10 : Nat) : Int) = ((n / 10 : Nat) : Int) := wrap_in (by omega) (by omega)
  have hpc : (⟨#[48, 49, 50, 51, 52, 53, 54, 55, 56, 57]⟩ : ByteArray).extract (n % 10) (n % 10 + 1) = mkb [UInt8.ofNat (48 + n % 10)] := digit_piece _ hm
  have happ : mkb [UInt8.ofNat (48 + n % 10)] ++ mkb acc = mkb (UInt8.ofNat (48 + n % 10) :: acc) := bl_inj (by rw [bl_app]; rfl)
  have hs : (mkb [UInt8.ofNat (48 + n % 10)]).size = 1 := rfl
  have hs2 : (mkb acc).size = acc.length := rfl
  simp only [corebankref09_digits.l0]
  rw [e10, d10, hw, hw2, Int.toNat_natCast, Int.toNat_natCast, hpc]
  simp only [Option.bind_some]
  generalize n % 10 = m at *
  refine digs_ifs _ _ _ _ _ none _ _ (Int.natCast_nonneg _) ?_ ?_ ?_ _ _ ?_ ?_
  · clear e10 d10 hw hw2 hpc happ; omega
  · clear e10 d10 hw hw2 hpc happ; omega
  · rw [hs, hs2]; omega
  · rw [hs2]; rcases hor with h | h
    · exact .inl (by omega)
    · exact .inr (by omega)
  · rw [happ]
theorem digs_l0 (least : Nat) (hle : least ≤ 100) : ∀ (d k n : Nat) (acc : List UInt8), n < 10 ^ d → least ≤ acc.length + d → d < k → n ≤ 100000000 → acc.length + d ≤ 100 →
    ∃ D : List UInt8, corebankref09_digits.l0 k (n : Int) (least : Int) (mkb acc) = some (mkb (D ++ acc)) ∧ D.all dig = true ∧ val D = n ∧ D.length ≤ d ∧ least ≤ D.length + acc.length ∧ (D.head? = some 48 → D.length + acc.length ≤ least) := by
  intro d
  induction d with
  | zero =>
    intro k n acc hn hl hk _ _
    obtain ⟨k, rfl⟩ : ∃ m, k = m + 1 := ⟨k - 1, by omega⟩
    rw [Nat.pow_zero] at hn
    obtain rfl : n = 0 := by omega
    refine ⟨[], ?_, rfl, rfl, Nat.le_refl _, by simpa using hl, fun h => by simp at h⟩
    simp only [corebankref09_digits.l0]
    rw [if_neg (by omega), if_neg (by rw [mkb_size]; omega)]
    rfl
  | succ d ih =>
    intro k n acc hn hl hk hb hc
    obtain ⟨k, rfl⟩ : ∃ m, k = m + 1 := ⟨k - 1, by omega⟩
    by_cases hor : n > 0 ∨ acc.length < least
    · have hp : 10 ^ (d + 1) = 10 ^ d * 10 := Nat.pow_succ ..
      obtain ⟨D, e, h1, h2, h3, h4, h5⟩ := ih k (n / 10) (UInt8.ofNat (48 + n % 10) :: acc) (by omega) (by simp only [List.length_cons]; omega) (by omega) (by omega) (by simp only [List.length_cons]; omega)
      obtain ⟨g1, g2⟩ := dig_of (show n % 10 < 10 by omega)
      simp only [List.length_cons] at h4 h5
      refine ⟨D ++ [UInt8.ofNat (48 + n % 10)], ?_, ?_, ?_, ?_, ?_, ?_⟩
      · rw [digs_step k n least acc hle hb (by omega) hor, e, List.append_assoc, List.singleton_append]
      · rw [List.all_append, h1, List.all_cons, g1]; rfl
      · rw [val_snoc, h2, g2]; omega
      · rw [List.length_append, List.length_singleton]; omega
      · rw [List.length_append, List.length_singleton]; omega
      · intro hh
        rw [List.length_append, List.length_singleton]
        cases D with
        | nil =>
          have hv : n / 10 = 0 := h2.symm
          simp only [List.nil_append, List.head?_cons, Option.some.injEq] at hh
          rw [hh] at g2
          have : (48 : UInt8).toNat = 48 := rfl
          simp only [List.length_nil]
          omega
        | cons x D =>
          have := h5 (by simpa using hh)
          omega
    · obtain rfl : n = 0 := by omega
      refine ⟨[], ?_, rfl, rfl, by simp, by simp; omega, fun h => by simp at h⟩
      simp only [corebankref09_digits.l0]
      rw [if_neg (by omega), if_neg (by rw [mkb_size]; omega)]
      rfl
end Go.Proofs.YtmcebojboffdoaaGreatDoor.P
