/-
  The law on blanks is true. Conditions: at most 2^47 bytes.
-/
import Derived.Test.YtmcebojboffdoaaGreatDoorQu
import Derived.Test.YtmcebojboffdoaaGreatDoorP33
namespace Go.Proofs.YtmcebojboffdoaaGreatDoor.P
set_option linter.unusedVariables false
set_option linter.unusedSimpArgs false
open Go.RowKit Go.Proofs.YtmcebojboffdoaaGreatDoorW.PrintWords Go.Proofs.YtmcebojboffdoaaGreatDoorW.PrintLast Go.Proofs.YtmcebojboffdoaaGreatDoorW.PrintMore
theorem rd_at (l : List S40) (i : Nat) (h : i < l.length) : rd_T40 l (i : Int) = l[i] := by
  unfold rd_T40
  rw [Int.toNat_natCast, List.getD_eq_getElem?_getD, List.getElem?_eq_getElem h]
  rfl
theorem blanks_fin (s : ByteArray) (hs : s.size ≤ 2000) (res : List S40 × Int × Int) (hT : Tk (bl s) 1 [] res) (M : List S40) (k : Nat) (hk : 10000 ≤ k) : ∀ i : Nat, res.1.length ≤ i →
    corebanklaw09_TokenBlanks.l0 (k + 1) s res.1 res.2.1 res.2.2 M (i : Int) = some true := by
  intro i hi
  have hl := hT.len
  rw [bl_len, List.length_nil] at hl
  have hb : bl (((⟨#[9, 32]⟩ : ByteArray) ++ s) ++ (⟨#[10, 32, 35]⟩ : ByteArray)) = [9, 32] ++ bl s ++ [10, 32, 35] := by rw [bl_app, bl_app]
  have hsz : (((⟨#[9, 32]⟩ : ByteArray) ++ s) ++ (⟨#[10, 32, 35]⟩ : ByteArray)).size ≤ 2048 := by
    rw [← bl_len, hb, List.length_append, List.length_append, bl_len]
    simp only [List.length_cons, List.length_nil]
    omega
  have hT2 : Tk (bl (((⟨#[9, 32]⟩ : ByteArray) ++ s) ++ (⟨#[10, 32, 35]⟩ : ByteArray))) 1 [] res := by
    rw [hb]
    exact (Tk.ahead (q := 0) (sk_blanks (bl s)) hT).behind
  simp only [corebanklaw09_TokenBlanks.l0]
  rw [if_neg (by omega), if_pos (by omega), if_pos (by omega), tokT_eq _ hsz hT2 k hk]
  simp only [Option.bind_some]
  rw [same_refl _ (by omega) k (by omega), lives_at k (by omega)]
  simp only [Option.bind_some]
  rw [if_pos trivial, if_pos trivial, if_pos trivial]
theorem blanks_l0' (s : ByteArray) (hs : s.size ≤ 2000) (res : List S40 × Int × Int) (hT : Tk (bl s) 1 [] res) : ∀ (d k i : Nat), i ≤ res.1.length → res.1.length - i = d → d + 10000 < k →
    corebanklaw09_TokenBlanks.l0 k s res.1 res.2.1 res.2.2 (res.1.map inc) (i : Int) = some true := by
  have hl := hT.len
  rw [bl_len, List.length_nil] at hl
  intro d
  induction d with
  | zero =>
    intro k i hi hd hk
    obtain ⟨k, rfl⟩ : ∃ m, k = m + 1 := ⟨k - 1, by omega⟩
    exact blanks_fin s hs res hT _ k (by omega) i (by omega)
  | succ d ih =>
    intro k i hi hd hk
    obtain ⟨k, rfl⟩ : ∃ m, k = m + 1 := ⟨k - 1, by omega⟩
    have hlt : i < res.1.length := by omega
    have hlt2 : i < (res.1.map inc).length := by rw [List.length_map]; exact hlt
    have hb : 0 ≤ res.1[i].f1 ∧ res.1[i].f1 ≤ 10000 := by
      rcases hT.lines.1 _ (List.getElem_mem hlt) with h | ⟨h1, h2⟩
      · cases h
      · rw [bl_len] at h2
        exact ⟨h1, by omega⟩
    simp only [corebanklaw09_TokenBlanks.l0]
    rw [if_pos (by omega), if_pos (by omega), if_pos (by omega), rd_at _ _ hlt, rd_at _ _ hlt2, List.getElem_map]
    have f0 : (inc res.1[i]).f0 = res.1[i].f0 := rfl
    have f1 : (inc res.1[i]).f1 = res.1[i].f1 + 1 := rfl
    have f2 : (inc res.1[i]).f2 = res.1[i].f2 := rfl
    rw [f0, f1, f2, if_pos rfl, if_pos rfl, wrap_in (by omega) (by omega), if_pos rfl, wsucc' (by omega)]
    exact ih k (i + 1) (by omega) (by omega) (by omega)
theorem blanks_at (s : ByteArray) (k : Nat) (hk : 20000 ≤ k) : corebanklaw09_TokenBlanks.f k s = some true := by
  unfold corebanklaw09_TokenBlanks.f
  by_cases h0 : (s.size : Int) > 2000
  · rw [if_pos h0, lives_at k (by omega)]; rfl
  · rw [if_neg h0]
    obtain ⟨res, hT⟩ := Tk.ex (bl s).length (bl s) 1 [] (Nat.le_refl _)
    have hl := hT.len
    rw [bl_len, List.length_nil] at hl
    have hb : bl ((⟨#[35, 32, 49, 46, 53, 32, 61, 10]⟩ : ByteArray) ++ s) = [35, 32, 49, 46, 53, 32, 61, 10] ++ bl s := by rw [bl_app]
    have hsz : ((⟨#[35, 32, 49, 46, 53, 32, 61, 10]⟩ : ByteArray) ++ s).size ≤ 2048 := by
      rw [← bl_len, hb, List.length_append, bl_len]
      simp only [List.length_cons, List.length_nil]
      omega
    have hT2 : Tk (bl ((⟨#[35, 32, 49, 46, 53, 32, 61, 10]⟩ : ByteArray) ++ s)) 1 [] (incR res) := by
      rw [hb]
      exact Tk.ahead (q := 1) (sk_comment (bl s)) hT.shift
    rw [tokT_eq s (by omega) hT k (by omega), tokT_eq _ hsz hT2 k (by omega)]
    simp only [Option.bind_some]
    have e1 : (incR res).2.2 = res.2.2 := rfl
    have e2 : (incR res).1 = res.1.map inc := rfl
    have hn := hT.lines.2
    rw [bl_len] at hn
    obtain ⟨k, rfl⟩ : ∃ m, k = m + 1 := ⟨k - 1, by omega⟩
    have fin : corebanklaw09_TokenBlanks.j0 (k + 1) s res.1 res.2.1 res.2.2 (res.1.map inc) false = some true := by
      simp only [corebanklaw09_TokenBlanks.j0]
      rw [if_neg (by decide)]
      exact blanks_l0' s (by omega) res hT res.1.length k 0 (by omega) (by omega) (by omega)
    rw [if_pos (by omega), e1, e2, if_pos rfl, if_pos (by rw [List.length_map])]
    by_cases he : res.2.2 = 0
    · rw [if_pos he]
      exact fin
    · rw [if_neg he]
      have e3 : (incR res).2.1 = res.2.1 + 1 := by unfold incR; simp only []; rw [if_neg he]
      rw [e3, wrap_in (by omega) (by omega), bne_self_eq_false]
      exact fin
/-- The law on blanks is true. -/
theorem tokenBlanks_true (s : ByteArray) (_ : s.size ≤ 140737488351232) : ∃ k, corebanklaw09_TokenBlanks.f k s = some true := by
  obtain ⟨k, hk⟩ : ∃ k, 20000 ≤ k := ⟨20000, Nat.le_refl _⟩
  exact ⟨k, blanks_at s k hk⟩
end Go.Proofs.YtmcebojboffdoaaGreatDoor.P
