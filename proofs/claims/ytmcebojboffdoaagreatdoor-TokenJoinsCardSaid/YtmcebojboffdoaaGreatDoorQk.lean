/-
  The reference's tokens of a text are those of the relation 'Tk'. Conditions: at most 1000000 bytes.
-/
import Derived.Test.YtmcebojboffdoaaGreatDoorQj
namespace Go.Proofs.YtmcebojboffdoaaGreatDoor.P
set_option linter.unusedVariables false
set_option linter.unusedSimpArgs false
open Go.RowKit Go.Proofs.YtmcebojboffdoaaGreatDoorW.PrintWords Go.Proofs.YtmcebojboffdoaaGreatDoorW.PrintLast Go.Proofs.YtmcebojboffdoaaGreatDoorW.PrintMore
/-- A comment. -/
theorem com_l1 (s : ByteArray) (hs : s.size ≤ 1000000) (acc : List S40) (x : Int) : ∀ (r : List UInt8) (i k : Nat), (bl s).drop i = r → i ≤ s.size →
    corebankref09_Tokenize.l1 (k + (r.takeWhile lin).length + 1) s acc x (i : Int) = corebankref09_Tokenize.l0 k s acc x ((i + (r.takeWhile lin).length : Nat) : Int) := by
  intro r
  induction r with
  | nil =>
    intro i k he hi
    have : s.size ≤ i := by rw [← bl_len]; exact List.drop_eq_nil_iff.1 he
    simp only [List.takeWhile_nil, List.length_nil, Nat.add_zero]
    simp only [corebankref09_Tokenize.l1]
    rw [if_neg (by omega)]
  | cons c r ih =>
    intro i k he hi
    obtain ⟨hi2, hc0, hr⟩ := drop_head he
    rw [bl_len] at hi2
    have hc : bt s (i : Int) = (c.toNat : Int) := (bt_bl s i).trans hc0
    by_cases hl : lin c = true
    · have hne := (lin_iff c).1 hl
      have n1 : (c.toNat : Int) ≠ 10 := byte_ne (n := 10) hne (by decide)
      have ih' := ih (i + 1) k hr (by omega)
      rw [List.takeWhile_cons, if_pos hl, List.length_cons, show k + ((r.takeWhile lin).length + 1) + 1 = (k + (r.takeWhile lin).length + 1) + 1 by omega]
      simp only [corebankref09_Tokenize.l1]
      simp only [corebankref09_Tokenize.l1] at ih'
      rw [hc, if_pos (by omega), if_pos (by omega), if_neg n1, wsucc' (by omega)]
      rw [ih', show i + 1 + (r.takeWhile lin).length = i + ((r.takeWhile lin).length + 1) by omega]
    · have hc10 : c = 10 := Classical.byContradiction fun g => hl ((lin_iff c).2 g)
      have n1 : (c.toNat : Int) = 10 := by rw [hc10]; rfl
      rw [List.takeWhile_cons, if_neg hl, List.length_nil]
      simp only [corebankref09_Tokenize.l1]
      rw [hc, if_pos (by omega), if_pos (by omega), if_pos n1]
      rfl
/-- Blanks and comments: a number of rounds. -/
theorem skip_l0 (s : ByteArray) (hs : s.size ≤ 1000000) (acc : List S40) {l : List UInt8} {n m : Nat} (h : Sk l n m) : ∀ (i line : Nat), (bl s).drop i = l → i ≤ s.size → line + l.length ≤ 10000000 →
    ∃ c, c ≤ 4 * n ∧ ∀ k, corebankref09_Tokenize.l0 (k + c) s acc (line : Int) (i : Int) = corebankref09_Tokenize.l0 k s acc ((line + m : Nat) : Int) ((i + n : Nat) : Int) := by
  induction h with
  | nil => intro i line _ _ _; exact ⟨0, Nat.le_refl _, fun k => rfl⟩
  | stop _ => intro i line _ _ _; exact ⟨0, Nat.le_refl _, fun k => rfl⟩
  | @nl l n m _ ih =>
    intro i line he hi hline
    simp only [List.length_cons] at hline
    obtain ⟨hi2, hc0, hr⟩ := drop_head he
    rw [bl_len] at hi2
    have hc : bt s (i : Int) = 10 := (bt_bl s i).trans hc0
    obtain ⟨c, hcl, hk⟩ := ih (i + 1) (line + 1) hr (by omega) (by omega)
    refine ⟨c + 1, by omega, fun k => ?_⟩
    rw [show k + (c + 1) = (k + c) + 1 by omega]
    have hk' := hk k
    rw [show line + 1 + m = line + (m + 1) by omega, show i + 1 + n = i + (n + 1) by omega] at hk'
    rw [← hk']
    generalize k + c = q
    simp only [corebankref09_Tokenize.l0]
    rw [hc, if_pos (by omega), if_pos (by omega), if_pos rfl, wsucc' (by omega), wsucc' (by omega)]
  | @sp x l n m hx _ ih =>
    intro i line he hi hline
    simp only [List.length_cons] at hline
    obtain ⟨hi2, hc0, hr⟩ := drop_head he
    rw [bl_len] at hi2
    have hc : bt s (i : Int) = (x.toNat : Int) := (bt_bl s i).trans hc0
    obtain ⟨c, hcl, hk⟩ := ih (i + 1) line hr (by omega) (by omega)
    refine ⟨c + 2, by omega, fun k => ?_⟩
    rw [show k + (c + 2) = (k + c) + 2 by omega]
    have hk' := hk k
    rw [show i + 1 + n = i + (n + 1) by omega] at hk'
    rw [← hk']
    generalize k + c = q
    have e : corebankref09_Tokenize.j1 (q + 1) s acc (line : Int) (i : Int) (x.toNat : Int) true = corebankref09_Tokenize.l0 q s acc (line : Int) ((i + 1 : Nat) : Int) := by
      simp only [corebankref09_Tokenize.j1]
      rw [if_pos trivial, wsucc' (by omega)]
    rw [← e, show q + 2 = (q + 1) + 1 from rfl]
    generalize q + 1 = p
    simp only [corebankref09_Tokenize.l0]
    rw [hc, if_pos (by omega), if_pos (by omega)]
    rcases hx with rfl | rfl
    · rw [if_neg (by decide), if_pos (by decide)]; rfl
    · rw [if_neg (by decide), if_neg (by decide)]; rfl
  | @com l n m _ ih =>
    intro i line he hi hline
    simp only [List.length_cons] at hline
    obtain ⟨hi2, hc0, hr⟩ := drop_head he
    rw [bl_len] at hi2
    have hc : bt s (i : Int) = 35 := (bt_bl s i).trans hc0
    have hd := dw_len lin l
    have hlen : s.size = i + (l.length + 1) := by
      have := congrArg List.length he
      rw [List.length_drop, bl_len, List.length_cons] at this
      omega
    have hr2 : (bl s).drop (i + (1 + (l.takeWhile lin).length)) = l.dropWhile lin := by
      rw [← List.drop_drop, he, Nat.add_comm 1, List.drop_succ_cons, drop_tw]
    obtain ⟨c, hcl, hk⟩ := ih (i + (1 + (l.takeWhile lin).length)) line hr2 (by omega) (by omega)
    have htw : ((35 :: l).takeWhile lin).length = (l.takeWhile lin).length + 1 := by rw [List.takeWhile_cons, if_pos ((lin_iff 35).2 (by decide)), List.length_cons]
    refine ⟨c + ((l.takeWhile lin).length + 1) + 3, by omega, fun k => ?_⟩
    have hl1 := com_l1 s hs acc (line : Int) (35 :: l) i (k + c) he hi
    rw [htw] at hl1
    have hk' := hk k
    rw [show i + (1 + (l.takeWhile lin).length) + n = i + (1 + (l.takeWhile lin).length + n) by omega] at hk'
    rw [← hk', show i + (1 + (l.takeWhile lin).length) = i + ((l.takeWhile lin).length + 1) by omega, ← hl1, show k + (c + ((l.takeWhile lin).length + 1) + 3) = (k + c + ((l.takeWhile lin).length + 1) + 1) + 2 by omega]
    generalize k + c + ((l.takeWhile lin).length + 1) + 1 = q
    have e : corebankref09_Tokenize.j1 (q + 1) s acc (line : Int) (i : Int) 35 false = corebankref09_Tokenize.l1 q s acc (line : Int) (i : Int) := by
      simp only [corebankref09_Tokenize.j1]
      rw [if_neg (by decide), if_pos trivial]
    rw [← e, show q + 2 = (q + 1) + 1 from rfl]
    generalize q + 1 = p
    simp only [corebankref09_Tokenize.l0]
    rw [hc, if_pos (by omega), if_pos (by omega), if_neg (by decide), if_neg (by decide)]
    rfl
/-- A byte that is no blank: the token. -/
theorem ref_step (s : ByteArray) (acc : List S40) (line i k : Nat) (c : UInt8) (r : List UInt8) (he : (bl s).drop i = c :: r) (hb : blank c = false) :
    corebankref09_Tokenize.l0 (k + 2) s acc (line : Int) (i : Int) = (corebankref09_Token.f k s (i : Int)).bind fun bt238 => (if bt238.2.2.2 = 0 then (if acc.length < 4398046511104 then (corebankref09_Tokenize.l0 k s (acc ++ [(⟨bt238.1, (line : Int), bt238.2.2.1⟩ : S40)]) (line : Int) (wrap64 ((i : Int) + (bt238.2.2.1.size : Int)))) else (none)) else (some (([] : List (S40)), (line : Int), bt238.2.2.2))) := by
  obtain ⟨hi2, hc0, hr⟩ := drop_head he
  rw [bl_len] at hi2
  have hc : bt s (i : Int) = (c.toNat : Int) := (bt_bl s i).trans hc0
  obtain ⟨h1, h2, h3, h4⟩ := blank_no hb
  have n1 : (c.toNat : Int) ≠ 32 := byte_ne (n := 32) h1 (by decide)
  have n2 : (c.toNat : Int) ≠ 9 := byte_ne (n := 9) h2 (by decide)
  have n3 : (c.toNat : Int) ≠ 10 := byte_ne (n := 10) h3 (by decide)
  have n4 : (c.toNat : Int) ≠ 35 := byte_ne (n := 35) h4 (by decide)
  simp only [corebankref09_Tokenize.l0, corebankref09_Tokenize.j1]
  rw [hc, if_pos (by omega), if_pos (by omega), if_neg n3, if_neg n1, beq_eq_false_iff_ne.2 n2, if_neg (show ¬ (false = true) by decide), if_neg n4]
/-- The reference's tokens. -/
theorem ref_l0 (s : ByteArray) (hs : s.size ≤ 1000000) {l : List UInt8} {line : Nat} {acc : List S40} {res : List S40 × Int × Int} (h : Tk l line acc res) : ∀ (i k : Nat), (bl s).drop i = l → i ≤ s.size → 4 * l.length + s.size + 100 ≤ k → line + l.length ≤ 10000000 → acc.length + l.length ≤ 10000000 →
    corebankref09_Tokenize.l0 k s acc (line : Int) (i : Int) = some res := by
  induction h with
  | @done l n m line acc hS hd =>
    intro i k he hi hk hline hacc
    obtain ⟨c, hcl, hq⟩ := skip_l0 s hs acc hS i line he hi hline
    have hn := hS.le
    obtain ⟨p, rfl⟩ : ∃ p, k = (p + 1) + c := ⟨k - c - 1, by omega⟩
    have hlen : l.length = s.size - i := by rw [← he, List.length_drop, bl_len]
    have hnl : l.length ≤ n := List.drop_eq_nil_iff.1 hd
    rw [hq]
    simp only [corebankref09_Tokenize.l0]
    rw [if_neg (by omega)]
  | @err l n m line acc c r hS hd hE =>
    intro i k he hi hk hline hacc
    obtain ⟨q, hcl, hq⟩ := skip_l0 s hs acc hS i line he hi hline
    have hn := hS.le
    obtain ⟨p, rfl⟩ : ∃ p, k = (p + 2) + q := ⟨k - q - 2, by omega⟩
    have he2 : (bl s).drop (i + n) = c :: r := by rw [← List.drop_drop, he, hd]
    obtain ⟨kd, tx, h1, h2⟩ := token_at s (by omega) (i + n) c r he2 p (by omega)
    rw [hq, ref_step s acc (line + m) (i + n) p c r he2 (hS.head hd), h1]
    simp only [Option.bind_some]
    rw [if_neg hE]
  | @tok l n m line acc c r res hS hd hE _ ih =>
    intro i k he hi hk hline hacc
    obtain ⟨q, hcl, hq⟩ := skip_l0 s hs acc hS i line he hi hline
    have hn := hS.le
    have hml := hS.line
    obtain ⟨p, rfl⟩ : ∃ p, k = (p + 2) + q := ⟨k - q - 2, by omega⟩
    have he2 : (bl s).drop (i + n) = c :: r := by rw [← List.drop_drop, he, hd]
    obtain ⟨kd, tx, h1, h2⟩ := token_at s (by omega) (i + n) c r he2 p (by omega)
    obtain ⟨rfl, rfl⟩ := h2 hE
    obtain ⟨t1, t2⟩ := text_len c r hE
    have hlen := congrArg List.length hd
    rw [List.length_drop, List.length_cons] at hlen
    have hl2 : l.length = s.size - i := by rw [← he, List.length_drop, bl_len]
    have he3 : (bl s).drop (i + n + (nextL (c :: r)).2.1.length) = (c :: r).drop (nextL (c :: r)).2.1.length := by rw [← List.drop_drop, he2]
    have hw : wrap64 (((i + n : Nat) : Int) + ((mkb (nextL (c :: r)).2.1).size : Int)) = ((i + n + (nextL (c :: r)).2.1.length : Nat) : Int) := by
      rw [mkb_size, wrap_in (by omega) (by omega)]
      omega
    have b1 : i + n + (nextL (c :: r)).2.1.length ≤ s.size := by
      clear hw he3 h1 h2 ih hq
      generalize (nextL (c :: r)).2.1.length = tl at *
      omega
    have b2 : ((c :: r).drop (nextL (c :: r)).2.1.length).length + 1 ≤ l.length - n := by
      clear hw he3 h1 h2 ih hq b1
      rw [List.length_drop, List.length_cons]
      generalize (nextL (c :: r)).2.1.length = tl at *
      omega
    rw [hq, ref_step s acc (line + m) (i + n) p c r he2 (hS.head hd), h1]
    simp only [Option.bind_some]
    rw [if_pos hE, if_pos (by omega), hw]
    clear h1 h2 hw hq t1 t2
    refine ih _ p he3 b1 ?_ ?_ ?_
    · generalize ((c :: r).drop (nextL (c :: r)).2.1.length).length = z at *
      omega
    · generalize ((c :: r).drop (nextL (c :: r)).2.1.length).length = z at *
      omega
    · rw [List.length_append, List.length_singleton]
      generalize ((c :: r).drop (nextL (c :: r)).2.1.length).length = z at *
      omega
theorem refT_eq (s : ByteArray) (hs : s.size ≤ 2048) {res : List S40 × Int × Int} (h : Tk (bl s) 1 [] res) (k : Nat) (hk : 20000 ≤ k) : corebankref09_Tokenize.f k s = some res := by
  unfold corebankref09_Tokenize.f
  rw [if_neg (by omega)]
  have := ref_l0 s (by omega) h 0 k (by rw [List.drop_zero]) (by omega) (by rw [bl_len]; omega) (by rw [bl_len]; omega) (by rw [bl_len, List.length_nil]; omega)
  exact this
end Go.Proofs.YtmcebojboffdoaaGreatDoor.P
