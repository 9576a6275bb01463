/-
  The reference's token at a place of a text; blanks and comments; the tokens of a text as a relation on bytes ('Tk'). Conditions: at most 2^32 - 16 bytes.
-/
import Derived.Test.YtmcebojboffdoaaGreatDoorQh
import Derived.Test.YtmcebojboffdoaaGreatDoorP10
import Derived.Test.YtmcebojboffdoaaGreatDoorP22
namespace Go.Proofs.YtmcebojboffdoaaGreatDoor.P
set_option linter.unusedVariables false
set_option linter.unusedSimpArgs false
open Go.RowKit Go.Proofs.YtmcebojboffdoaaGreatDoorW.PrintWords Go.Proofs.YtmcebojboffdoaaGreatDoorW.PrintLast Go.Proofs.YtmcebojboffdoaaGreatDoorW.PrintMore
theorem tw_takeR {α : Type} (p : α → Bool) (l : List α) : l.take (l.takeWhile p).length = l.takeWhile p := take_tw p l
theorem piece (s : ByteArray) (i n : Nat) : s.extract i (i + n) = mkb (((bl s).drop i).take n) := bl_inj (by rw [bl_extract, bl_mkb, Nat.add_sub_cancel_left])
theorem plainL_int (t : List UInt8) (h0 : t ≠ []) : (plainL t = t.length) ↔ intL t = true := by
  have hp : 0 < t.length := List.length_pos_iff.2 h0
  rw [intL_iff]
  unfold plainL
  constructor
  · intro h
    by_cases hc : 1 < (t.takeWhile dig).length ∧ at0 t 0 = 48
    · rw [if_pos hc] at h; omega
    · rw [if_neg hc] at h
      have hall : t.takeWhile dig = t := by
        have := take_tw dig t
        rw [h, List.take_length] at this
        exact this.symm
      refine ⟨h0, (tw_eq_iff dig t).1 hall, ?_⟩
      rw [hall] at hc
      by_cases h1 : t.length = 1
      · exact .inl h1
      · right
        intro g
        apply hc
        refine ⟨by omega, ?_⟩
        cases t with
        | nil => cases g
        | cons b t => rw [List.head?_cons] at g; rw [Option.some.inj g]; rfl
  · rintro ⟨_, hall, hor⟩
    rw [(tw_eq_iff dig t).2 hall]
    refine if_neg ?_
    rintro ⟨h1, h2⟩
    rcases hor with h3 | h3
    · omega
    · apply h3
      cases t with
      | nil => exact absurd rfl h0
      | cons b t =>
        have e : b = 48 := byte_of (n := 48) (by simpa [at0] using h2) (by decide)
        rw [e]
        rfl
theorem numL_err (t : List UInt8) (h0 : t ≠ []) (ht : t.length < 4294967281) : (numL t).2.2 = 0 → (numL t).1 = (if intL t = true then 2 else 3) ∧ (numL t).2.1 = t := by
  unfold numL
  intro h
  by_cases hi : intL t = true
  · rw [if_pos hi] at h ⊢
    by_cases hv : val t < 9223372036854775808
    · rw [if_pos hv, if_pos hi]; exact ⟨rfl, rfl⟩
    · rw [if_neg hv] at h; exact absurd h (by decide)
  · rw [if_neg hi] at h ⊢
    by_cases h2 : (rateF t).2 = 0
    · rw [if_pos h2, if_neg hi]; exact ⟨rfl, rfl⟩
    · rw [if_neg h2] at h
      by_cases h3 : (rateF t).2 = 1
      · rw [if_pos h3] at h; exact absurd h (by decide)
      · rw [if_neg h3] at h; exact absurd h (by decide)
/-- The reference's token at a place: the same error, and where there is none the same token. -/
theorem token_at (s : ByteArray) (hs : s.size < 4294967281) (i : Nat) (c : UInt8) (r : List UInt8) (he : (bl s).drop i = c :: r) (k : Nat) (hk : s.size + 60 < k) :
    ∃ kd tx, corebankref09_Token.f k s (i : Int) = some (kd, 0, tx, (nextL (c :: r)).2.2) ∧ ((nextL (c :: r)).2.2 = 0 → kd = (nextL (c :: r)).1 ∧ tx = mkb (nextL (c :: r)).2.1) := by
  obtain ⟨hi, hc0, hr⟩ := drop_head he
  rw [bl_len] at hi
  have hc : bt s (i : Int) = (c.toNat : Int) := (bt_bl s i).trans hc0
  have hlen : s.size = i + (r.length + 1) := by
    have := congrArg List.length he
    rw [List.length_drop, bl_len, List.length_cons] at this
    omega
  unfold corebankref09_Token.f
  rw [if_pos (by omega), if_pos (by omega), hc, ref_letter, ref_digit]
  simp only [Option.bind_some]
  have hend : ∀ more : Bool, corebankref09_end.f k s (i : Int) more = some (((i + ((c :: r).takeWhile (if more then num else nam)).length : Nat)) : Int) := by
    intro more
    have := end_l0 s (by omega) more (s.size - i) k i (by omega) rfl (by omega)
    rw [he] at this
    exact this
  have hendF : corebankref09_end.f k s (i : Int) false = some (((i + ((c :: r).takeWhile nam).length : Nat)) : Int) := hend false
  have hendT : corebankref09_end.f k s (i : Int) true = some (((i + ((c :: r).takeWhile num).length : Nat)) : Int) := hend true
  have hcut : ∀ q : UInt8 → Bool, s.extract i (i + ((c :: r).takeWhile q).length) = mkb ((c :: r).takeWhile q) := by
    intro q
    rw [piece, he, take_tw]
  have hle : ∀ q : UInt8 → Bool, ((c :: r).takeWhile q).length ≤ r.length + 1 := fun q => tw_le q (c :: r)
  rw [nextL_cons]
  by_cases hl : low c = true
  · have h1 := hle nam
    rw [if_pos (show isLow (c.toNat : Int) = true from hl), if_pos hl, hendF]
    simp only [Option.bind_some]
    rw [if_pos (by omega), if_pos (by omega), Int.toNat_natCast, Int.toNat_natCast, hcut]
    generalize (c :: r).takeWhile nam = nm at *
    rw [ref_Word _ k (by omega), bl_mkb, mkb_size]
    simp only [Option.bind_some]
    by_cases hw : wordB nm = true
    · rw [if_pos hw, if_pos hw]
      exact ⟨_, _, rfl, fun _ => ⟨rfl, rfl⟩⟩
    · rw [if_neg hw, if_neg hw]
      by_cases h16 : nm.length > 16
      · rw [if_pos (by omega), if_pos h16]
        exact ⟨_, _, rfl, fun h => absurd h (by decide)⟩
      · rw [if_neg (by omega), if_neg h16]
        exact ⟨_, _, rfl, fun _ => ⟨rfl, rfl⟩⟩
  · rw [if_neg (show ¬ isLow (c.toNat : Int) = true from hl), if_neg hl]
    by_cases hd : dig c = true
    · have h1 := hle num
      have hne : (c :: r).takeWhile num ≠ [] := by
        have hn : num c = true := by
          show (isLow (c.toNat : Int) || isDig (c.toNat : Int) || ((c.toNat : Int) == 95) || ((c.toNat : Int) == 46) || ((c.toNat : Int) == 37)) = true
          rw [show isDig (c.toNat : Int) = true from hd]
          simp
        rw [List.takeWhile_cons, if_pos hn]
        exact List.cons_ne_nil _ _
      rw [if_pos (show isDig (c.toNat : Int) = true from hd), if_pos hd, hendT]
      simp only [Option.bind_some]
      rw [if_pos (by omega), if_pos (by omega), Int.toNat_natCast, Int.toNat_natCast, hcut]
      generalize (c :: r).takeWhile num = t at *
      have hsz : (mkb t).size = t.length := rfl
      obtain ⟨_, hrate, hyes, hno⟩ := rateF_eq t (by omega) k (by omega)
      rw [plain_eq (mkb t) (by omega) k (by omega), bl_mkb]
      simp only [Option.bind_some]
      unfold numL
      by_cases hint : intL t = true
      · rw [if_pos hint, if_pos (by rw [hsz, (plainL_int t hne).2 hint]), great_eq t hint]
        simp only [Option.bind_some]
        by_cases hv : val t < 9223372036854775808
        · rw [if_pos hv, decide_eq_false (by omega), if_neg (by decide)]
          exact ⟨_, _, rfl, fun _ => ⟨rfl, rfl⟩⟩
        · rw [if_neg hv, decide_eq_true (by omega), if_pos rfl]
          exact ⟨_, _, rfl, fun h => absurd h (by decide)⟩
      · have hpl : ¬ ((plainL t : Nat) : Int) = ((mkb t).size : Int) := by
          rw [hsz]
          intro g
          exact hint ((plainL_int t hne).1 (by omega))
        rw [if_neg hint, if_neg hpl, form_eq (mkb t) (by omega) k (by omega), bl_mkb]
        simp only [Option.bind_some]
        cases hf : formL t with
        | true =>
          rw [if_pos rfl, hrate]
          simp only [Option.bind_some]
          rcases hyes hf with h0 | h0
          · rw [h0, if_pos rfl, if_pos rfl]
            exact ⟨_, _, rfl, fun _ => ⟨rfl, rfl⟩⟩
          · rw [h0, if_neg (by decide), if_neg (by decide), if_pos rfl]
            exact ⟨_, _, rfl, fun h => absurd h (by decide)⟩
        | false =>
          rw [if_neg (by decide), hno hf, if_neg (by decide), if_neg (by decide)]
          exact ⟨_, _, rfl, fun h => absurd h (by decide)⟩
    · rw [if_neg (show ¬ isDig (c.toNat : Int) = true from hd), if_neg hd, mark_eq s (by omega) i c r he k (by omega), findM_cons, marks_same' c (eqNext r)]
      simp only [Option.bind_some]
      have hm : markC c (eqNext r) = 0 ∨ markC c (eqNext r) = 1 ∨ (markC c (eqNext r) = 2 ∧ eqNext r = true) := by
        unfold markC
        split
        · rename_i h; exact .inr (.inr ⟨rfl, h.1⟩)
        · split
          · exact .inr (.inl rfl)
          · exact .inl rfl
      rcases hm with h | h | ⟨h, hq⟩
      · rw [h, if_pos (show ((0 : Nat) : Int) = 0 from rfl)]
        exact ⟨_, _, rfl, fun h => absurd (show (2 : Int) = 0 from h) (by decide)⟩
      · have hw : wrap64 ((i : Int) + ((1 : Nat) : Int)) = ((i + 1 : Nat) : Int) := wsucc' (by omega)
        have hp1 : s.extract i (i + 1) = mkb [c] := by rw [piece, he]; rfl
        rw [h, if_neg (show ¬ ((1 : Nat) : Int) = 0 by decide), hw, if_pos (by omega), if_pos (by omega), Int.toNat_natCast, Int.toNat_natCast, hp1]
        exact ⟨_, _, rfl, fun _ => ⟨rfl, rfl⟩⟩
      · have hr1 : ∃ r2, r = 61 :: r2 := by
          unfold eqNext at hq
          cases r with
          | nil => cases hq
          | cons y r2 => rw [List.head?_cons, beq_iff_eq] at hq; exact ⟨r2, by rw [Option.some.inj hq]⟩
        obtain ⟨r2, rfl⟩ := hr1
        simp only [List.length_cons] at hlen
        have hw : wrap64 ((i : Int) + ((2 : Nat) : Int)) = ((i + 2 : Nat) : Int) := by unfold wrap64; omega
        have hp1 : s.extract i (i + 2) = mkb [c, 61] := by rw [piece, he]; rfl
        rw [h, if_neg (show ¬ ((2 : Nat) : Int) = 0 by decide), hw, if_pos (by omega), if_pos (by omega), Int.toNat_natCast, Int.toNat_natCast, hp1]
        exact ⟨_, _, rfl, fun _ => ⟨rfl, rfl⟩⟩
/-! ### blanks and comments -/
def blank (c : UInt8) : Bool := c == 32 || c == 9 || c == 10 || c == 35
/-- Bytes to skip, line feeds among them. -/
inductive Sk : List UInt8 → Nat → Nat → Prop
  | nil : Sk [] 0 0
  | stop {c : UInt8} {l : List UInt8} : blank c = false → Sk (c :: l) 0 0
  | nl {l : List UInt8} {n m : Nat} : Sk l n m → Sk (10 :: l) (n + 1) (m + 1)
  | sp {c : UInt8} {l : List UInt8} {n m : Nat} : c = 32 ∨ c = 9 → Sk l n m → Sk (c :: l) (n + 1) m
  | com {l : List UInt8} {n m : Nat} : Sk (l.dropWhile lin) n m → Sk (35 :: l) (1 + (l.takeWhile lin).length + n) m
theorem Sk.le {l : List UInt8} {n m : Nat} (h : Sk l n m) : n ≤ l.length := by
  induction h with
  | nil => exact Nat.le_refl _
  | stop => exact Nat.zero_le _
  | nl _ ih => simp only [List.length_cons]; omega
  | sp _ _ ih => simp only [List.length_cons]; omega
  | @com l n m _ ih =>
    have := congrArg List.length (List.takeWhile_append_dropWhile (p := lin) (l := l))
    rw [List.length_append] at this
    simp only [List.length_cons]
    omega
theorem dw_len {α : Type} (p : α → Bool) (l : List α) : (l.takeWhile p).length + (l.dropWhile p).length = l.length := by
  have := congrArg List.length (List.takeWhile_append_dropWhile (p := p) (l := l))
  rwa [List.length_append] at this
theorem drop_com (l : List UInt8) (n : Nat) : (35 :: l).drop (1 + (l.takeWhile lin).length + n) = (l.dropWhile lin).drop n := by
  rw [show 1 + (l.takeWhile lin).length + n = ((l.takeWhile lin).length + n) + 1 by omega, List.drop_succ_cons, ← List.drop_drop, drop_tw]
theorem Sk.ex : ∀ (d : Nat) (l : List UInt8), l.length ≤ d → ∃ n m, Sk l n m := by
  intro d
  induction d with
  | zero =>
    intro l h
    cases l with
    | nil => exact ⟨0, 0, .nil⟩
    | cons c l => simp only [List.length_cons] at h; omega
  | succ d ih =>
    intro l h
    cases l with
    | nil => exact ⟨0, 0, .nil⟩
    | cons c l =>
      simp only [List.length_cons] at h
      by_cases h1 : c = 10
      · obtain ⟨n, m, h2⟩ := ih l (by omega)
        subst h1
        exact ⟨_, _, .nl h2⟩
      · by_cases h3 : c = 32 ∨ c = 9
        · obtain ⟨n, m, h2⟩ := ih l (by omega)
          exact ⟨_, _, .sp h3 h2⟩
        · by_cases h4 : c = 35
          · have := dw_len lin l
            obtain ⟨n, m, h2⟩ := ih (l.dropWhile lin) (by omega)
            subst h4
            exact ⟨_, _, .com h2⟩
          · refine ⟨0, 0, .stop ?_⟩
            unfold blank
            rw [beq_eq_false_iff_ne.2 h1, beq_eq_false_iff_ne.2 h4, beq_eq_false_iff_ne.2 (fun g => h3 (.inl g)), beq_eq_false_iff_ne.2 (fun g => h3 (.inr g))]
            rfl
theorem Sk.head {l : List UInt8} {n m : Nat} (h : Sk l n m) : ∀ {c : UInt8} {r : List UInt8}, l.drop n = c :: r → blank c = false := by
  induction h with
  | nil => intro c r h; cases h
  | stop hb => intro c r h; cases h; exact hb
  | nl _ ih => intro c r h; exact ih h
  | sp _ _ ih => intro c r h; exact ih h
  | com _ ih => intro c r h; rw [drop_com] at h; exact ih h
theorem count_app (c : UInt8) : ∀ a b : List UInt8, Lib.countByte (a ++ b) c = Lib.countByte a c + Lib.countByte b c := by
  intro a b
  unfold Lib.countByte
  simp
end Go.Proofs.YtmcebojboffdoaaGreatDoor.P
