/-
  The percentage of a number from 0 to 1000000: the program's text and the reference's are the same. Conditions: none.
-/
import Derived.Test.YtmcebojboffdoaaGreatDoorQe
namespace Go.Proofs.YtmcebojboffdoaaGreatDoor.P
open Go.RowKit Go.Proofs.YtmcebojboffdoaaGreatDoorW.PrintWords Go.Proofs.YtmcebojboffdoaaGreatDoorW.PrintLast Go.Proofs.YtmcebojboffdoaaGreatDoorW.PrintMore
theorem tmod_k (n : Nat) : Int.tmod (n : Int) 10000 = ((n % 10000 : Nat) : Int) := by
  rw [Int.tmod_eq_emod_of_nonneg (Int.natCast_nonneg n)]
  omega
theorem tdiv_k (n : Nat) : Int.tdiv (n : Int) 10000 = ((n / 10000 : Nat) : Int) := by
  rw [Int.tdiv_eq_ediv_of_nonneg (Int.natCast_nonneg n)]
  omega
theorem int_short {w : List UInt8} (h : intL w = true) {n d : Nat} (hv : val w = n) (hn : n < 10 ^ d) (hd : 1 ≤ d) : w.length ≤ d := by
  rcases Nat.lt_or_ge d w.length with g | g
  · exfalso
    have h1 := val_ge w h (by omega)
    have h2 : (10 : Nat) ^ d ≤ 10 ^ (w.length - 1) := Nat.pow_le_pow_right (by omega) (by omega)
    omega
  · exact g
theorem itoa_nat (u : Nat) (h : u ≤ 9223372036854775807) : strconv_Itoa.f (u : Int) = some (mkb (Lib.decDigits u)) := by
  unfold strconv_Itoa.f
  rw [if_pos (by omega), Lib.itoa_nonneg]
theorem four_digits (m : Nat) (hm : m < 10000) : ∃ x D, Lib.decDigits (10000 + m) = x :: D ∧ D.length = 4 ∧ D.all dig = true ∧ val D = m := by
  obtain ⟨h1, h2⟩ := dec_spec (10000 + m)
  have h3 := int_short h1 (d := 5) h2 (by have : (10 : Nat) ^ 5 = 100000 := rfl; omega) (by omega)
  have h4 := val_lt _ (intL_all h1)
  have hd := intL_all h1
  have h5 : 5 ≤ (Lib.decDigits (10000 + m)).length := by
    rcases Nat.lt_or_ge (Lib.decDigits (10000 + m)).length 5 with g | g
    · have : (10 : Nat) ^ (Lib.decDigits (10000 + m)).length ≤ 10 ^ 4 := Nat.pow_le_pow_right (by omega) (by omega)
      have e : (10 : Nat) ^ 4 = 10000 := rfl
      omega
    · exact g
  cases hl : Lib.decDigits (10000 + m) with
  | nil => rw [hl] at h5; simp at h5
  | cons x D =>
    rw [hl] at h2 h3 h5 hd
    simp only [List.length_cons] at h3 h5
    simp only [List.all_cons, Bool.and_eq_true] at hd
    have hlen : D.length = 4 := by omega
    have h6 := val_lt D hd.2
    rw [val_cons] at h2
    rw [hlen] at h2 h6
    have e : (10 : Nat) ^ 4 = 10000 := rfl
    rw [e] at h2 h6
    exact ⟨x, D, rfl, hlen, hd.2, by omega⟩
/-- Four digits without the zeros at their end. -/
theorem part_of (D : List UInt8) (h4 : D.length = 4) (hd : D.all dig = true) : ∃ p r, D = p ++ List.replicate r 48 ∧ lastNz p ∧ p.all dig = true ∧ p.length ≤ 4 ∧ r = 4 - p.length ∧ val p * 10 ^ (4 - p.length) = val D := by
  obtain ⟨p, r, e, hp⟩ := zeros_ex D
  have hl := congrArg List.length e
  rw [h4, List.length_append, List.length_replicate] at hl
  rw [e, List.all_append, Bool.and_eq_true] at hd
  refine ⟨p, r, e, hp, hd.1, by omega, by omega, ?_⟩
  rw [e, val_zeros, show 4 - p.length = r by omega]
theorem tok_Percent (n : Nat) (hn : n ≤ 1000000) (k : Nat) (hk : 0 < k) : ∃ w p, PctV n w p ∧ token_Percent.f k (n : Int) = some (mkb (pctText w p), 0) := by
  obtain ⟨k, rfl⟩ : ∃ m, k = m + 1 := ⟨k - 1, by omega⟩
  have hm : n % 10000 < 10000 := Nat.mod_lt _ (by decide)
  have hq : n / 10000 ≤ 100 := by omega
  have t1 : wrap64 (10000 + Int.tmod (n : Int) 10000) = ((10000 + n % 10000 : Nat) : Int) := by
    rw [tmod_k, wrap_in (by omega) (by omega)]
    omega
  have t2 : wrap64 (Int.tdiv (n : Int) 10000) = ((n / 10000 : Nat) : Int) := by
    rw [tdiv_k, wrap_in (by omega) (by omega)]
  unfold token_Percent.f
  rw [if_neg (by omega), decide_eq_false (by omega)]
  simp only [token_Percent.j0]
  rw [if_neg (by decide), t1, t2]
  obtain ⟨m, hm'⟩ : ∃ m, n % 10000 = m := ⟨_, rfl⟩
  obtain ⟨q, hq'⟩ : ∃ q, n / 10000 = q := ⟨_, rfl⟩
  rw [hm'] at hm
  rw [hq'] at hq
  rw [hm', hq']
  clear t1 t2
  obtain ⟨x, D, e1, e2, e3, e4⟩ := four_digits m hm
  obtain ⟨p, r, f1, f2, f3, f4, f5, f6⟩ := part_of D e2 e3
  obtain ⟨w1, w2⟩ := dec_spec q
  have w3 := int_short w1 (d := 3) w2 (by have : (10 : Nat) ^ 3 = 1000 := rfl; omega) (by omega)
  refine ⟨Lib.decDigits q, p, ⟨w1, f3, f4, f2, w2.trans hq'.symm, (f6.trans e4).trans hm'.symm⟩, ?_⟩
  have hx : (mkb (x :: D)).extract 1 (mkb (x :: D)).size = mkb D := bl_inj (by rw [bl_end]; rfl)
  have htr : strings_TrimRight.f (mkb D) (⟨#[48]⟩ : ByteArray) = some (mkb p) := by
    unfold strings_TrimRight.f
    rw [dif_pos (show (⟨#[48]⟩ : ByteArray).size = 1 from rfl)]
    have hc : (((⟨#[48]⟩ : ByteArray)[0]'(by decide)) : UInt8) = 48 := rfl
    rw [if_pos ⟨by decide, by rw [mkb_size]; omega⟩]
    congr 1
    show mkb (Lib.trimRightB D 48) = mkb p
    rw [f1, trim_zeros p r f2]
  rw [itoa_nat _ (by omega), itoa_nat _ (by omega), e1]
  simp only [Option.bind_some]
  rw [if_pos (by rw [mkb_size, List.length_cons]; omega), hx, htr]
  simp only [Option.bind_some]
  rw [toList_bl, bl_mkb]
  generalize Lib.decDigits q = w at *
  have hsw : (mkb w).size = w.length := rfl
  have hsp : (mkb p).size = p.length := rfl
  by_cases hp : p = []
  · rw [if_pos hp, if_pos (by rw [hsw]; omega)]
    have : mkb w ++ (⟨#[37]⟩ : ByteArray) = mkb (pctText w p) := bl_inj (by rw [bl_app]; unfold pctText tailOf; rw [if_pos hp])
    rw [this]
  · rw [if_neg hp, if_pos (by rw [hsp]; omega), if_pos (by rw [hsw, hsp]; omega), if_pos (by rw [hsw, hsp]; omega)]
    have : (mkb w ++ ((⟨#[46]⟩ : ByteArray) ++ mkb p)) ++ (⟨#[37]⟩ : ByteArray) = mkb (pctText w p) := bl_inj (by
      rw [bl_app, bl_app, bl_app]
      unfold pctText tailOf
      rw [if_neg hp]
      show (w ++ ([46] ++ p)) ++ [37] = w ++ (46 :: p ++ [37])
      simp)
    rw [this]
theorem refp_l0 (w p : List UInt8) (hp : lastNz p) (hw : w.length ≤ 100) (hpl : p.length ≤ 100) : ∀ (r k : Nat), r ≤ 100 → r < k → corebankref09_Percent.l0 k (mkb w) (mkb (p ++ List.replicate r 48)) = some (mkb (pctText w p), 0) := by
  have hsw : (mkb w).size = w.length := rfl
  intro r
  induction r with
  | zero =>
    intro k _ hk
    obtain ⟨k, rfl⟩ : ∃ m, k = m + 1 := ⟨k - 1, by omega⟩
    rw [List.replicate_zero, List.append_nil]
    have hsp : (mkb p).size = p.length := rfl
    simp only [corebankref09_Percent.l0]
    rw [toList_bl, bl_mkb]
    by_cases h0 : p = []
    · have : mkb w ++ (⟨#[37]⟩ : ByteArray) = mkb (pctText w p) := bl_inj (by rw [bl_app]; unfold pctText tailOf; rw [if_pos h0])
      have hl : p.length = 0 := by rw [h0]; rfl
      rw [if_neg (by rw [hsp]; omega), if_pos h0, if_pos (by rw [hsw]; omega), this]
    · have hl : 0 < p.length := List.length_pos_iff.2 h0
      have hw1 : wrap64 (((mkb p).size : Int) - 1) = ((p.length - 1 : Nat) : Int) := by rw [hsp]; unfold wrap64; omega
      have : ((mkb w ++ (⟨#[46]⟩ : ByteArray)) ++ mkb p) ++ (⟨#[37]⟩ : ByteArray) = mkb (pctText w p) := bl_inj (by
        rw [bl_app, bl_app, bl_app]
        unfold pctText tailOf
        rw [if_neg h0]
        show ((w ++ [46]) ++ p) ++ [37] = w ++ (46 :: p ++ [37])
        simp)
      rw [hw1, if_pos (by rw [hsp]; omega), if_pos (by omega), if_pos (by rw [hsp]; omega), bt_bl, bl_mkb, if_neg (hp h0), if_neg h0, if_pos (by rw [hsw]; omega), if_pos (by rw [hsw, hsp]; omega), if_pos (by rw [hsw, hsp]; omega), this]
  | succ r ih =>
    intro k hr hk
    obtain ⟨k, rfl⟩ : ∃ m, k = m + 1 := ⟨k - 1, by omega⟩
    have hlen : (p ++ List.replicate (r + 1) 48).length = p.length + r + 1 := by rw [List.length_append, List.length_replicate]; omega
    have hsp : (mkb (p ++ List.replicate (r + 1) 48)).size = p.length + r + 1 := hlen
    have hw1 : wrap64 (((mkb (p ++ List.replicate (r + 1) 48)).size : Int) - 1) = ((p.length + r : Nat) : Int) := by rw [hsp]; unfold wrap64; omega
    have hlast : at0 (p ++ List.replicate (r + 1) 48) (p.length + r) = 48 := by
      rw [at0_app_ge _ _ _ (by omega), show p.length + r - p.length = r by omega, List.replicate_succ', at0_app_ge _ _ _ (by rw [List.length_replicate]; omega), List.length_replicate, Nat.sub_self]
      rfl
    have hcut : (mkb (p ++ List.replicate (r + 1) 48)).extract 0 (p.length + r) = mkb (p ++ List.replicate r 48) := bl_inj (by
      rw [bl_head, bl_mkb, bl_mkb, List.replicate_succ', ← List.append_assoc, List.take_append_of_le_length (by rw [List.length_append, List.length_replicate]; omega), List.take_of_length_le (by rw [List.length_append, List.length_replicate]; omega)])
    simp only [corebankref09_Percent.l0]
    rw [hw1, if_pos (by rw [hsp]; omega), if_pos (by omega), if_pos (by rw [hsp]; omega), bt_bl, bl_mkb, hlast, if_pos rfl, if_pos (by rw [hsp]; omega), Int.toNat_natCast, hcut]
    exact ih k (by omega) (by omega)
theorem ref_Percent (n : Nat) (hn : n ≤ 1000000) (k : Nat) (hk : 20 < k) : ∃ w p, PctV n w p ∧ corebankref09_Percent.f k (n : Int) = some (mkb (pctText w p), 0) := by
  obtain ⟨k, rfl⟩ : ∃ m, k = m + 1 := ⟨k - 1, by omega⟩
  have t1 : Int.tmod (n : Int) 10000 = ((n % 10000 : Nat) : Int) := tmod_k n
  have t2 : wrap64 (Int.tdiv (n : Int) 10000) = ((n / 10000 : Nat) : Int) := by
    rw [tdiv_k, wrap_in (by omega) (by omega)]
  have hm : n % 10000 < 10000 := Nat.mod_lt _ (by decide)
  obtain ⟨w, w0, w1, w2, w3, w4, w5⟩ := digs_l0 1 (by omega) 3 k (n / 10000) [] (by have : (10 : Nat) ^ 3 = 1000 := rfl; omega) (by simp) (by omega) (by omega) (by simp)
  obtain ⟨D, d0, d1, d2, d3, d4, _⟩ := digs_l0 4 (by omega) 4 k (n % 10000) [] (by have : (10 : Nat) ^ 4 = 10000 := rfl; omega) (by simp) (by omega) (by omega) (by simp)
  simp only [List.length_nil, Nat.add_zero, List.append_nil] at w0 w4 w5 d0 d4
  have wi : intL w = true := by
    refine (intL_iff _).2 ⟨List.length_pos_iff.1 (by omega), w1, ?_⟩
    by_cases h : w.head? = some 48
    · exact .inl (by have := w5 h; omega)
    · exact .inr h
  obtain ⟨p, r, f1, f2, f3, f4, f5, f6⟩ := part_of D (by omega) d1
  refine ⟨w, p, ⟨wi, f3, f4, f2, w2, f6.trans d2⟩, ?_⟩
  unfold corebankref09_Percent.f
  rw [if_neg (by omega), decide_eq_false (by omega)]
  simp only [corebankref09_Percent.j0]
  unfold corebankref09_digits.f
  rw [if_neg (by decide), t1, t2]
  rw [show (⟨#[]⟩ : ByteArray) = mkb [] from rfl, show (1 : Int) = ((1 : Nat) : Int) from rfl, w0]
  simp only [Option.bind_some]
  rw [show (4 : Int) = ((4 : Nat) : Int) from rfl, d0]
  simp only [Option.bind_some]
  rw [f1]
  exact refp_l0 w p f2 (by omega) (by omega) r k (by omega) (by omega)
theorem percent_same (n : Nat) (hn : n ≤ 1000000) (k : Nat) (hk : 20 < k) : ∃ w p, PctV n w p ∧ token_Percent.f k (n : Int) = some (mkb (pctText w p), 0) ∧ corebankref09_Percent.f k (n : Int) = some (mkb (pctText w p), 0) := by
  obtain ⟨w, p, h, e⟩ := tok_Percent n hn k (by omega)
  obtain ⟨w', p', h', e'⟩ := ref_Percent n hn k hk
  obtain ⟨rfl, rfl⟩ := h.uniq h'
  exact ⟨w, p, h, e, e'⟩
theorem percent_out (x : Int) (hx : x < 0 ∨ x > 1000000) (k : Nat) (hk : 0 < k) : token_Percent.f k x = some ((⟨#[]⟩ : ByteArray), 1) ∧ corebankref09_Percent.f k x = some ((⟨#[]⟩ : ByteArray), 1) := by
  obtain ⟨k, rfl⟩ : ∃ m, k = m + 1 := ⟨k - 1, by omega⟩
  unfold token_Percent.f corebankref09_Percent.f
  by_cases h : x < 0
  · rw [if_pos h, if_pos h]
    simp only [token_Percent.j0, corebankref09_Percent.j0]
    exact ⟨if_pos trivial, if_pos trivial⟩
  · rw [if_neg h, if_neg h, decide_eq_true (by omega)]
    simp only [token_Percent.j0, corebankref09_Percent.j0]
    exact ⟨if_pos trivial, if_pos trivial⟩
end Go.Proofs.YtmcebojboffdoaaGreatDoor.P
