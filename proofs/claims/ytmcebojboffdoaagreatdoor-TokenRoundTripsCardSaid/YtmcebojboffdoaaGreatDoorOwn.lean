/-
  A word of ours for the printed walks: a text that is cut out of another gets a name. Conditions: none.
-/
import Derived.Test.YtmcebojboffdoaaGreatDoorV
namespace Go.Proofs.YtmcebojboffdoaaGreatDoor.P
set_option linter.unusedVariables false
set_option linter.unusedSimpArgs false
open Go.RowKit Go.Proofs.YtmcebojboffdoaaGreatDoorW.PrintWords
theorem str_name {P : Program} {ops : Array Oper} {rest : List Oper} {o : Oper} {a : Act} {Q : Exit → Act → World → Prop} {W : World} {y s : ByteArray} (hy : y = s) (hgd : o.guard = none)
    (hrun : (execOp a.eval o).run P W = .ok (.value (.string s)) W) (h : wpList P ops Q rest (a.put o.dst (.string y)) W) : wpList P ops Q (o :: rest) a W := by
  subst hy
  exact Kd.event_run hgd hrun h
@[simp] theorem bytesLess_gt : ∀ a b : List UInt8, (!Op.bytesLess a b && !(a == b)) = Op.bytesLess b a
  | [], [] => by simp [Op.bytesLess]
  | [], _ :: _ => by simp [Op.bytesLess]
  | _ :: _, [] => by simp [Op.bytesLess]
  | x :: a, y :: b => by
    have ih := bytesLess_gt a b
    rcases Nat.lt_trichotomy x.toNat y.toNat with h | h | h
    · have h1 : x < y := h
      have h2 : ¬ y < x := fun g => by have : y.toNat < x.toNat := g; omega
      have h3 : ¬ y = x := fun g => by rw [g] at h; omega
      simp [Op.bytesLess, h1, h2, h3]
    · have e : x = y := UInt8.toNat_inj.1 h
      subst e
      have h2 : ¬ x < x := fun g => by have : x.toNat < x.toNat := g; omega
      simpa [Op.bytesLess, h2] using ih
    · have h1 : y < x := h
      have h2 : ¬ x < y := fun g => by have : x.toNat < y.toNat := g; omega
      have h3 : ¬ x = y := fun g => by rw [g] at h; omega
      simp [Op.bytesLess, h1, h2, h3]
end Go.Proofs.YtmcebojboffdoaaGreatDoor.P
