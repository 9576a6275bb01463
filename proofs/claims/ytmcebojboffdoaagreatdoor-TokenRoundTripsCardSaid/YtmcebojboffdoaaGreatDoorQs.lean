/-
  Lists of tokens that the laws call short. Conditions: none.
-/
import Derived.Test.YtmcebojboffdoaaGreatDoorQv
import Derived.Test.YtmcebojboffdoaaGreatDoorP24
namespace Go.Proofs.YtmcebojboffdoaaGreatDoor.P
set_option linter.unusedVariables false
set_option linter.unusedSimpArgs false
open Go.RowKit Go.Proofs.YtmcebojboffdoaaGreatDoorW.PrintWords Go.Proofs.YtmcebojboffdoaaGreatDoorW.PrintLast Go.Proofs.YtmcebojboffdoaaGreatDoorW.PrintMore
/-! ### short lists -/
theorem short_l0 (l : List S40) (hl : l.length ≤ 300) : ∀ (d k i : Nat), i ≤ l.length → l.length - i = d → d < k → ∃ b, corebanklaw09_short.l0 k l (i : Int) = some b ∧ (b = true → ∀ t ∈ l.drop i, t.f2.size ≤ 100) := by
  intro d
  induction d with
  | zero =>
    intro k i hi hd hk
    obtain ⟨k, rfl⟩ : ∃ m, k = m + 1 := ⟨k - 1, by omega⟩
    simp only [corebanklaw09_short.l0]
    rw [if_neg (by omega), List.drop_of_length_le (by omega)]
    exact ⟨true, rfl, fun _ t ht => absurd ht List.not_mem_nil⟩
  | succ d ih =>
    intro k i hi hd hk
    obtain ⟨k, rfl⟩ : ∃ m, k = m + 1 := ⟨k - 1, by omega⟩
    have hlt : i < l.length := by omega
    simp only [corebanklaw09_short.l0]
    rw [if_pos (by omega), if_pos (by omega), rdT_at _ _ hlt, wsucc' (by omega), List.drop_eq_getElem_cons hlt]
    by_cases h : l[i].f2.size > 100
    · rw [if_pos (by omega)]
      exact ⟨false, rfl, fun h => Bool.noConfusion h⟩
    · rw [if_neg (by omega)]
      obtain ⟨b, e, hb⟩ := ih k (i + 1) (by omega) (by omega) (by omega)
      refine ⟨b, e, fun hbt t ht => ?_⟩
      rcases List.mem_cons.1 ht with g | g
      · rw [g]; omega
      · exact hb hbt t g
theorem short_eq (l : List S40) (k : Nat) (hk : 400 ≤ k) : ∃ b, corebanklaw09_short.f k l = some b ∧ (b = true → l.length ≤ 300 ∧ ∀ t ∈ l, t.f2.size ≤ 100) := by
  unfold corebanklaw09_short.f
  by_cases h : l.length > 300
  · rw [if_pos (by omega)]
    exact ⟨false, rfl, fun h => Bool.noConfusion h⟩
  · rw [if_neg (by omega)]
    obtain ⟨b, e, hb⟩ := short_l0 l (by omega) l.length k 0 (by omega) (by omega) (by omega)
    rw [List.drop_zero] at hb
    exact ⟨b, e, fun h => ⟨by omega, hb h⟩⟩
end Go.Proofs.YtmcebojboffdoaaGreatDoor.P
