/-
  The law on reading is true; each text of at most 2048 bytes has one result. Conditions: at most 2^47 bytes.
-/
import Derived.Test.YtmcebojboffdoaaGreatDoorQt
import Derived.Test.YtmcebojboffdoaaGreatDoorQk
import Derived.Test.YtmcebojboffdoaaGreatDoorP23
namespace Go.Proofs.YtmcebojboffdoaaGreatDoor.P
open Go.RowKit Go.Proofs.YtmcebojboffdoaaGreatDoorW.PrintWords Go.Proofs.YtmcebojboffdoaaGreatDoorW.PrintLast Go.Proofs.YtmcebojboffdoaaGreatDoorW.PrintMore
theorem refT_eq (s : ByteArray) (hs : s.size ≤ 2048) {res : List S40 × Int × Int} (h : Tk (bl s) 1 [] res) (k : Nat) (hk : 20000 ≤ k) : corebankref09_Tokenize.f k s = some res := by
  unfold corebankref09_Tokenize.f
  rw [if_neg (by omega)]
  have := ref_l0 s (by omega) h 0 k (by rw [List.drop_zero]) (by omega) (by rw [bl_len]; omega) (by rw [bl_len]; omega) (by rw [bl_len, List.length_nil]; omega)
  exact this
theorem reads_at (s : ByteArray) (k : Nat) (hk : 20000 ≤ k) : corebanklaw09_TokenReads.f k s = some true := by
  unfold corebanklaw09_TokenReads.f
  by_cases h0 : (s.size : Int) > 2100
  · rw [if_pos h0, lives_at k (by omega)]; rfl
  · rw [if_neg h0]
    have fin : ∀ res : List S40 × Int × Int, res.1.length ≤ 5000 → token_Tokenize.f k s = some res → corebankref09_Tokenize.f k s = some res → ((token_Tokenize.f k s).bind fun bt247 => ((corebankref09_Tokenize.f k s).bind fun bt252 => ((corebankref09_Same.f k bt247.1 bt252.1).bind fun t257 => (if t257 = true then (if bt247.2.1 = bt252.2.1 then (if bt247.2.2 = bt252.2.2 then ((corebanklaw09_lives.f k).bind fun t258 => (some t258)) else (some false)) else (some false)) else (some false))))) = some true := by
      intro res hr h1 h2
      rw [h1, h2]
      simp only [Option.bind_some]
      rw [same_refl _ (by omega) k (by omega), lives_at k (by omega)]
      simp only [Option.bind_some]
      rw [if_pos trivial, if_pos trivial, if_pos trivial]
    by_cases h1 : s.size ≤ 2048
    · obtain ⟨res, hT⟩ := Tk.ex (bl s).length (bl s) 1 [] (Nat.le_refl _)
      have hlen := hT.len
      rw [bl_len, List.length_nil] at hlen
      exact fin res (by omega) (tokT_eq s h1 hT k (by omega)) (refT_eq s h1 hT k hk)
    · refine fin ([], 0, 5) (by decide) ?_ ?_
      · unfold token_Tokenize.f; rw [if_pos (by omega)]
      · unfold corebankref09_Tokenize.f; rw [if_pos (by omega)]
/-- The law on reading is true. -/
theorem tokenReads_true (s : ByteArray) (_ : s.size ≤ 140737488351232) : ∃ k, corebanklaw09_TokenReads.f k s = some true := by
  obtain ⟨k, hk⟩ : ∃ k, 20000 ≤ k := ⟨20000, Nat.le_refl _⟩
  exact ⟨k, reads_at s k hk⟩
end Go.Proofs.YtmcebojboffdoaaGreatDoor.P
