/-
  The law on percentages is true. Conditions: none.
-/
import Derived.Test.YtmcebojboffdoaaGreatDoorQf
import Derived.Test.YtmcebojboffdoaaGreatDoorQl
import Derived.Test.YtmcebojboffdoaaGreatDoorP32
namespace Go.Proofs.YtmcebojboffdoaaGreatDoor.P
open Go.RowKit Go.Proofs.YtmcebojboffdoaaGreatDoorW.PrintWords Go.Proofs.YtmcebojboffdoaaGreatDoorW.PrintLast Go.Proofs.YtmcebojboffdoaaGreatDoorW.PrintMore
theorem percents_at (x : Int) (k : Nat) (hk : 1000 ≤ k) : corebanklaw09_TokenPercents.f k x = some true := by
  unfold corebanklaw09_TokenPercents.f
  obtain ⟨k, rfl⟩ : ∃ m, k = m + 1 := ⟨k - 1, by omega⟩
  by_cases h : x < 0 ∨ x > 1000000
  · obtain ⟨h1, h2⟩ := percent_out x h (k + 1) (by omega)
    rw [h1, h2]
    simp only [Option.bind_some]
    rw [if_pos trivial, bne_self_eq_false]
    simp only [corebanklaw09_TokenPercents.j0]
    have : ∃ r, token_Rate.f k (⟨#[]⟩ : ByteArray) = some r := by
      rcases tok_Rate (⟨#[]⟩ : ByteArray) (by decide) k (by omega) with ⟨_, _, _, h⟩ | ⟨_, h⟩
      · exact ⟨_, h⟩
      · exact ⟨_, h⟩
    obtain ⟨r, hr⟩ := this
    rw [if_neg (by decide), hr, lives_at k (by omega)]
    rfl
  · obtain ⟨n, rfl⟩ := Int.eq_ofNat_of_zero_le (show 0 ≤ x by omega)
    obtain ⟨w, p, hV, h1, h2⟩ := percent_same n (by omega) (k + 1) (by omega)
    rw [h1, h2]
    simp only [Option.bind_some]
    rw [if_pos trivial, bne_self_eq_false]
    simp only [corebanklaw09_TokenPercents.j0]
    have hsz : (mkb (pctText w p)).size < 4294967281 := by
      have h3 := int_short hV.int (d := 3) hV.vw (by have : (10 : Nat) ^ 3 = 1000 := rfl; omega) (by omega)
      have h4 := hV.len
      rw [mkb_size]
      unfold pctText tailOf
      split <;> simp only [List.length_append, List.length_cons, List.length_nil] <;> omega
    have hp : Pct (bl (mkb (pctText w p))) w p := hV.pct
    have hv := hV.rate
    have hrate : token_Rate.f k (mkb (pctText w p)) = some ((n : Int), 0) := by
      have hle : (mkb (pctText w p)).size ≤ 20 := by
        have h3 := int_short hV.int (d := 3) hV.vw (by have : (10 : Nat) ^ 3 = 1000 := rfl; omega) (by omega)
        have h4 := hV.len
        rw [mkb_size]
        unfold pctText tailOf
        split <;> simp only [List.length_append, List.length_cons, List.length_nil] <;> omega
      rw [rate_same _ hsz k (by omega), ref_Rate _ (by omega) k (by omega) w p hp]
      unfold rateR
      rw [hv, if_neg (by omega)]
    rw [if_neg (by decide), hrate, lives_at k (by omega)]
    simp only [Option.bind_some]
    rw [if_pos trivial, if_pos trivial, if_pos trivial]
/-- The law on percentages is true. -/
theorem tokenPercents_true (x : Int) (_ : -9223372036854775808 ≤ x) (_ : x ≤ 9223372036854775807) : ∃ k, corebanklaw09_TokenPercents.f k x = some true := by
  obtain ⟨k, hk⟩ : ∃ k, 1000 ≤ k := ⟨1000, Nat.le_refl _⟩
  exact ⟨k, percents_at x k hk⟩
end Go.Proofs.YtmcebojboffdoaaGreatDoor.P
