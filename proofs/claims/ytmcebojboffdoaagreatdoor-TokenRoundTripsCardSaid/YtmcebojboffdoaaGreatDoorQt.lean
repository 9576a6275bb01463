/-
  The program's tokens of a text of at most 2048 bytes; a list is the same as itself. Conditions: none.
-/
import Derived.Test.YtmcebojboffdoaaGreatDoorQj
import Derived.Test.YtmcebojboffdoaaGreatDoorQl
namespace Go.Proofs.YtmcebojboffdoaaGreatDoor.P
set_option linter.unusedVariables false
set_option linter.unusedSimpArgs false
open Go.RowKit Go.Proofs.YtmcebojboffdoaaGreatDoorW.PrintWords Go.Proofs.YtmcebojboffdoaaGreatDoorW.PrintLast Go.Proofs.YtmcebojboffdoaaGreatDoorW.PrintMore
theorem Tk.len {l : List UInt8} {line : Nat} {acc : List S40} {res : List S40 × Int × Int} (h : Tk l line acc res) : res.1.length ≤ acc.length + l.length := by
  induction h with
  | done => exact Nat.le_add_right _ _
  | err => exact Nat.zero_le _
  | @tok l n m line acc c r res hS hd he _ ih =>
    obtain ⟨t1, t2⟩ := text_len c r he
    have hn := hS.le
    have hlen := congrArg List.length hd
    rw [List.length_drop, List.length_cons] at hlen
    rw [List.length_append, List.length_singleton, List.length_drop, List.length_cons] at ih
    omega
theorem tokT_eq (s : ByteArray) (hs : s.size ≤ 2048) {res : List S40 × Int × Int} (h : Tk (bl s) 1 [] res) (k : Nat) (hk : 10000 ≤ k) : token_Tokenize.f k s = some res := by
  unfold token_Tokenize.f
  rw [if_neg (by omega)]
  have := tok_l0 h k (by rw [bl_len]; omega) (by rw [bl_len]; omega) (by rw [bl_len]; omega) (by rw [bl_len, List.length_nil]; omega)
  rw [mkb_bl] at this
  exact this
/-- A text has one result. -/
theorem Tk.uniq {l : List UInt8} (hl : l.length ≤ 2048) {r1 r2 : List S40 × Int × Int} (h1 : Tk l 1 [] r1) (h2 : Tk l 1 [] r2) : r1 = r2 := by
  obtain ⟨k, hk⟩ : ∃ k, 10000 ≤ k := ⟨10000, Nat.le_refl _⟩
  have e1 := tokT_eq (mkb l) hl h1 k hk
  have e2 := tokT_eq (mkb l) hl h2 k hk
  rw [e1] at e2
  exact Option.some.inj e2
theorem same_l0 (l : List S40) (hl : l.length ≤ 1000000) : ∀ (d k i : Nat), i ≤ l.length → l.length - i = d → d < k → corebankref09_Same.l0 k l l (i : Int) = some true := by
  intro d
  induction d with
  | zero =>
    intro k i hi hd hk
    obtain ⟨k, rfl⟩ : ∃ m, k = m + 1 := ⟨k - 1, by omega⟩
    simp only [corebankref09_Same.l0]
    rw [if_neg (by omega)]
  | succ d ih =>
    intro k i hi hd hk
    obtain ⟨k, rfl⟩ : ∃ m, k = m + 1 := ⟨k - 1, by omega⟩
    simp only [corebankref09_Same.l0]
    rw [if_pos (by omega), if_pos (by omega), if_pos (by omega), if_neg (by simp), wsucc' (by omega)]
    exact ih k (i + 1) (by omega) (by omega) (by omega)
theorem same_refl (l : List S40) (hl : l.length ≤ 1000000) (k : Nat) (hk : l.length < k) : corebankref09_Same.f k l l = some true := by
  unfold corebankref09_Same.f
  rw [if_pos rfl]
  exact same_l0 l hl l.length k 0 (by omega) (by omega) (by omega)
end Go.Proofs.YtmcebojboffdoaaGreatDoor.P
