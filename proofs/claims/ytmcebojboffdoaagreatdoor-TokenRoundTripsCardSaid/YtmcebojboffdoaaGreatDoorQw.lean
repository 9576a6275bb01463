/-
  The words: the program's and the reference's are the same; the law on words is true. Conditions: at most 2^47 bytes.
-/
import Derived.Test.YtmcebojboffdoaaGreatDoorQa
import Derived.Test.YtmcebojboffdoaaGreatDoorQl
import Derived.Test.YtmcebojboffdoaaGreatDoorP15
namespace Go.Proofs.YtmcebojboffdoaaGreatDoor.P
set_option linter.unusedVariables false
set_option linter.unusedSimpArgs false
open Go.RowKit Go.Proofs.YtmcebojboffdoaaGreatDoorW.PrintWords Go.Proofs.YtmcebojboffdoaaGreatDoorW.PrintLast Go.Proofs.YtmcebojboffdoaaGreatDoorW.PrintMore
def wordsL : List ByteArray := corebankref09_Words.f.getD []
theorem ref_words : corebankref09_Words.f = some wordsL := rfl
theorem wordsL_len : wordsL.length = 42 := by decide +kernel
theorem tok_words : token_words.f = some wordsL := by decide +kernel
def wordB (l : List UInt8) : Bool := decide (l ∈ wordsL.map bl)
theorem wsucc' {i : Nat} (h : i < 9223372036854775807) : wrap64 ((i : Int) + 1) = ((i + 1 : Nat) : Int) := by
  unfold wrap64
  omega
theorem rdOf_at {α : Type} (d : α) (l : List α) (i : Nat) (h : i < l.length) : rdOf d l (i : Int) = l[i] := by
  unfold rdOf
  rw [Int.toNat_natCast, List.getD_eq_getElem?_getD, List.getElem?_eq_getElem h]
  rfl
theorem toList_iff (s t : ByteArray) : s.toList = t.toList ↔ s = t := by
  rw [toList_bl, toList_bl]
  exact ⟨bl_inj, fun h => h ▸ rfl⟩
theorem mem_head {s x : ByteArray} {l : List ByteArray} (h : s = x) : decide (bl s ∈ (x :: l).map bl) = true := decide_eq_true (by rw [h, List.map_cons]; exact List.mem_cons_self)
theorem mem_tail {s x : ByteArray} {l : List ByteArray} (h : ¬ s = x) : decide (bl s ∈ (x :: l).map bl) = decide (bl s ∈ l.map bl) := by
  exact decide_eq_decide.2 ⟨fun g => (List.mem_cons.1 g).resolve_left (fun e => h (bl_inj e)), fun g => List.mem_cons.2 (.inr g)⟩
theorem index_l0 (l : List ByteArray) (s : ByteArray) (hl : l.length ≤ 140737488351232) : ∀ d k i, i ≤ l.length → l.length - i = d → d < k → ∃ r, slices_Index_string_string.l0 k l s (l.length : Int) (i : Int) = some r ∧ (decide (r ≥ 0) = decide (bl s ∈ (l.drop i).map bl)) := by
  intro d
  induction d with
  | zero =>
    intro k i hi hd hk
    obtain ⟨k, rfl⟩ : ∃ m, k = m + 1 := ⟨k - 1, by omega⟩
    simp only [slices_Index_string_string.l0]
    rw [if_neg (by omega), List.drop_of_length_le (by omega)]
    exact ⟨_, rfl, rfl⟩
  | succ d ih =>
    intro k i hi hd hk
    obtain ⟨k, rfl⟩ : ∃ m, k = m + 1 := ⟨k - 1, by omega⟩
    simp only [slices_Index_string_string.l0]
    have hlt : i < l.length := by omega
    rw [if_pos (by omega), if_pos (by omega), if_pos (by omega), rdOf_at _ _ _ hlt, List.drop_eq_getElem_cons hlt]
    by_cases he : s = l[i]
    · rw [if_pos ((toList_iff _ _).2 he)]
      refine ⟨_, rfl, ?_⟩
      rw [mem_head he]
      exact decide_eq_true (by omega)
    · rw [if_neg (fun h => he ((toList_iff _ _).1 h)), wsucc' (by omega), mem_tail he]
      exact ih k (i + 1) (by omega) (by omega) (by omega)
theorem tok_Word (s : ByteArray) (k : Nat) (hk : 42 < k) : token_Word.f k s = some (wordB (bl s)) := by
  unfold token_Word.f
  rw [tok_words]
  simp only [Option.bind_some]
  unfold slices_Contains_string_string.f slices_Index_string_string.f
  have hl := wordsL_len
  obtain ⟨r, h1, h2⟩ := index_l0 wordsL s (by omega) 42 k 0 (by omega) (by omega) (by omega)
  rw [show ((0 : Nat) : Int) = 0 from rfl] at h1
  rw [h1]
  simp only [Option.bind_some]
  rw [h2, List.drop_zero]
  rfl
theorem refword_l0 (l : List ByteArray) (s : ByteArray) (hl : l.length ≤ 140737488351232) : ∀ d k i, i ≤ l.length → l.length - i = d → d < k → corebankref09_Word.l0 k s l (i : Int) = some (decide (bl s ∈ (l.drop i).map bl)) := by
  intro d
  induction d with
  | zero =>
    intro k i hi hd hk
    obtain ⟨k, rfl⟩ : ∃ m, k = m + 1 := ⟨k - 1, by omega⟩
    simp only [corebankref09_Word.l0]
    rw [if_neg (by omega), List.drop_of_length_le (by omega)]
    rfl
  | succ d ih =>
    intro k i hi hd hk
    obtain ⟨k, rfl⟩ : ∃ m, k = m + 1 := ⟨k - 1, by omega⟩
    simp only [corebankref09_Word.l0]
    have hlt : i < l.length := by omega
    rw [if_pos (by omega), if_pos (by omega), rdOf_at _ _ _ hlt, List.drop_eq_getElem_cons hlt]
    by_cases he : s = l[i]
    · rw [if_pos ((toList_iff _ _).2 he.symm), mem_head he]
    · rw [if_neg (fun h => he ((toList_iff _ _).1 h).symm), wsucc' (by omega), mem_tail he]
      exact ih k (i + 1) (by omega) (by omega) (by omega)
theorem ref_Word (s : ByteArray) (k : Nat) (hk : 42 < k) : corebankref09_Word.f k s = some (wordB (bl s)) := by
  unfold corebankref09_Word.f
  rw [ref_words]
  simp only [Option.bind_some]
  have hl := wordsL_len
  have h1 := refword_l0 wordsL s (by omega) 42 k 0 (by omega) (by omega) (by omega)
  rw [show ((0 : Nat) : Int) = 0 from rfl, List.drop_zero] at h1
  exact h1
theorem word_at (i : Nat) (h : i < wordsL.length) : wordB (bl wordsL[i]) = true := decide_eq_true (List.mem_map.2 ⟨_, List.getElem_mem h, rfl⟩)
theorem words_l0 (s : ByteArray) : ∀ d k i : Nat, i ≤ 42 → 42 - i = d → d + 70 < k → corebanklaw09_TokenWords.l0 k s wordsL (i : Int) = some true := by
  have hl := wordsL_len
  intro d
  induction d with
  | zero =>
    intro k i hi hd hk
    obtain ⟨k, rfl⟩ : ∃ m, k = m + 1 := ⟨k - 1, by omega⟩
    simp only [corebanklaw09_TokenWords.l0]
    rw [if_neg (by omega), tok_Word s k (by omega), ref_Word s k (by omega), lives_at k (by omega)]
    simp only [Option.bind_some]
    rw [if_pos (by simp)]
  | succ d ih =>
    intro k i hi hd hk
    obtain ⟨k, rfl⟩ : ∃ m, k = m + 1 := ⟨k - 1, by omega⟩
    simp only [corebanklaw09_TokenWords.l0]
    have hlt : i < wordsL.length := by omega
    rw [if_pos (by omega), if_pos (by omega), rdOf_at _ _ _ hlt, tok_Word _ k (by omega), word_at i hlt]
    simp only [Option.bind_some]
    rw [if_pos trivial, wsucc' (by omega)]
    exact ih k (i + 1) (by omega) (by omega) (by omega)
/-- The law on words is true. -/
theorem tokenWords_true (s : ByteArray) (_ : s.size ≤ 140737488351232) : ∃ k, corebanklaw09_TokenWords.f k s = some true := by
  obtain ⟨k, hk⟩ : ∃ k, 200 ≤ k := ⟨200, Nat.le_refl _⟩
  refine ⟨k, ?_⟩
  unfold corebanklaw09_TokenWords.f
  rw [lives_at k (by omega), ref_words]
  simp only [Option.bind_some]
  split
  · rfl
  · exact words_l0 s 42 k 0 (by omega) (by omega) (by omega)
end Go.Proofs.YtmcebojboffdoaaGreatDoor.P
