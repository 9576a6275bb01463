/-
  The examples of the chapter, run in the kernel on what the functions compute. Conditions: none.
-/
import Derived.Test.YtmcebojboffdoaaGreatDoorP13
namespace Go.Proofs.YtmcebojboffdoaaGreatDoor.P
set_option linter.unusedVariables false
set_option linter.unusedSimpArgs false
open Go.RowKit Go.Proofs.YtmcebojboffdoaaGreatDoorW.PrintWords
theorem lives_60 : corebanklaw09_lives.f 60 = some true := by decide +kernel
theorem lives_at (k : Nat) (hk : 60 ≤ k) : corebanklaw09_lives.f k = some true := at_rounds (fun k => corebanklaw09_lives.mono k) hk lives_60
end Go.Proofs.YtmcebojboffdoaaGreatDoor.P
