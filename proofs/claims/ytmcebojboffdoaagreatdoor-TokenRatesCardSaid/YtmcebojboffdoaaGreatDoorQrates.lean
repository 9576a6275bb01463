/-
  The law on rates is true. Conditions: at most 2^47 bytes.
-/
import Derived.Test.YtmcebojboffdoaaGreatDoorQf
import Derived.Test.YtmcebojboffdoaaGreatDoorQl
import Derived.Test.YtmcebojboffdoaaGreatDoorP29
namespace Go.Proofs.YtmcebojboffdoaaGreatDoor.P
open Go.RowKit Go.Proofs.YtmcebojboffdoaaGreatDoorW.PrintWords Go.Proofs.YtmcebojboffdoaaGreatDoorW.PrintLast Go.Proofs.YtmcebojboffdoaaGreatDoorW.PrintMore
theorem rates_at (s : ByteArray) (k : Nat) (hk : 1000 ≤ k) : corebanklaw09_TokenRates.f k s = some true := by
  unfold corebanklaw09_TokenRates.f
  by_cases h0 : (s.size : Int) > 100
  · rw [if_pos h0, lives_at k (by omega)]; rfl
  · rw [if_neg h0, rate_same s (by omega) k (by omega)]
    obtain ⟨k, rfl⟩ : ∃ m, k = m + 1 := ⟨k - 1, by omega⟩
    by_cases hP : ∃ w p, Pct (bl s) w p
    · obtain ⟨w, p, hP⟩ := hP
      rw [ref_Rate s (by omega) (k + 1) (by omega) w p hP]
      simp only [Option.bind_some]
      rw [if_pos trivial, bne_self_eq_false]
      simp only [corebanklaw09_TokenRates.j0]
      rw [if_neg (by decide)]
      unfold rateR
      by_cases hb : rateV w p > 1000000
      · rw [if_pos hb]
        obtain ⟨w', p', _, h1, _⟩ := percent_same 0 (by omega) k (by omega)
        rw [show ((0 : Nat) : Int) = 0 from rfl] at h1
        simp only []
        rw [h1, lives_at k (by omega)]
        rfl
      · rw [if_neg hb]
        obtain ⟨w', p', hV, h1, _⟩ := percent_same (rateV w p) (by omega) k (by omega)
        obtain ⟨rfl, rfl⟩ := hV.uniq hP.v
        simp only []
        rw [h1, lives_at k (by omega)]
        simp only [Option.bind_some]
        rw [toList_bl, toList_bl, bl_mkb]
        have e : pctText w' p' = bl s := hP.eq.symm
        rw [e, if_pos trivial, if_pos trivial, if_pos rfl]
    · rw [ref_Rate_no s (by omega) (k + 1) (by omega) hP]
      simp only [Option.bind_some]
      rw [if_pos trivial, bne_self_eq_false]
      simp only [corebanklaw09_TokenRates.j0]
      obtain ⟨w', p', _, h1, _⟩ := percent_same 0 (by omega) k (by omega)
      rw [show ((0 : Nat) : Int) = 0 from rfl] at h1
      rw [if_neg (by decide), h1, lives_at k (by omega)]
      rfl
/-- The law on rates is true. -/
theorem tokenRates_true (s : ByteArray) (_ : s.size ≤ 140737488351232) : ∃ k, corebanklaw09_TokenRates.f k s = some true := by
  obtain ⟨k, hk⟩ : ∃ k, 1000 ≤ k := ⟨1000, Nat.le_refl _⟩
  exact ⟨k, rates_at s k hk⟩
end Go.Proofs.YtmcebojboffdoaaGreatDoor.P
