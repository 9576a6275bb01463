/-
  Tokens of a text with blanks ahead or behind: the relation 'Tk' under them. Conditions: none.
-/
import Derived.Test.YtmcebojboffdoaaGreatDoorQt
namespace Go.Proofs.YtmcebojboffdoaaGreatDoor.P
set_option linter.unusedVariables false
set_option linter.unusedSimpArgs false
open Go.RowKit Go.Proofs.YtmcebojboffdoaaGreatDoorW.PrintWords Go.Proofs.YtmcebojboffdoaaGreatDoorW.PrintLast Go.Proofs.YtmcebojboffdoaaGreatDoorW.PrintMore
theorem tw_sep {α : Type} (q : α → Bool) (x : α) (hx : q x = false) (y : List α) : ∀ l : List α, (l ++ x :: y).takeWhile q = l.takeWhile q
  | [] => by rw [List.nil_append, List.takeWhile_cons, hx, List.takeWhile_nil]; rfl
  | a :: l => by
    rw [List.cons_append, List.takeWhile_cons, List.takeWhile_cons, tw_sep q x hx y l]
theorem dw_sep {α : Type} (q : α → Bool) (x : α) (hx : q x = false) (y : List α) : ∀ l : List α, (l ++ x :: y).dropWhile q = l.dropWhile q ++ x :: y
  | [] => by rw [List.nil_append, List.dropWhile_cons, hx, List.dropWhile_nil]; rfl
  | a :: l => by
    rw [List.cons_append, List.dropWhile_cons, List.dropWhile_cons, dw_sep q x hx y l]
    by_cases h : q a = true
    · rw [if_pos h, if_pos h]
    · rw [if_neg h, if_neg h, List.cons_append]
/-- A blank behind a text changes nothing in the token at its beginning. -/
theorem next_sep (c : UInt8) (r : List UInt8) (x : UInt8) (hx : x = 10 ∨ x = 32) (y : List UInt8) : nextL (c :: (r ++ x :: y)) = nextL (c :: r) := by
  have h1 : nam x = false := by rcases hx with rfl | rfl <;> decide
  have h2 : num x = false := by rcases hx with rfl | rfl <;> decide
  have h3 : eqNext (r ++ x :: y) = eqNext r := by
    unfold eqNext
    cases r with
    | nil => rcases hx with rfl | rfl <;> rfl
    | cons a r => rfl
  have t1 : (c :: (r ++ x :: y)).takeWhile nam = (c :: r).takeWhile nam := tw_sep nam x h1 y (c :: r)
  have t2 : (c :: (r ++ x :: y)).takeWhile num = (c :: r).takeWhile num := tw_sep num x h2 y (c :: r)
  have t3 : findM (c :: (r ++ x :: y)) = findM (c :: r) := by rw [findM_cons, findM_cons, h3]
  rw [nextL_cons, nextL_cons, t1, t2, t3]
/-! ### ahead -/
theorem Tk.ahead {P : List UInt8} {q : Nat} {l : List UInt8} (hP : ∀ n m, Sk l n m → Sk (P ++ l) (P.length + n) (q + m)) {line : Nat} {acc : List S40} {res : List S40 × Int × Int} (h : Tk l (line + q) acc res) : Tk (P ++ l) line acc res := by
  have hd : ∀ n, (P ++ l).drop (P.length + n) = l.drop n := fun n => by rw [← List.drop_drop, List.drop_left]
  cases h with
  | @done _ n m _ _ hS hl => exact .done (hP n m hS) ((hd n).trans hl)
  | @err _ n m _ _ c r hS hl he =>
    have := Tk.err (line := line) (acc := acc) (hP n m hS) ((hd n).trans hl) he
    rwa [show line + (q + m) = line + q + m by omega] at this
  | @tok _ n m _ _ c r _ hS hl he hT =>
    refine .tok (hP n m hS) ((hd n).trans hl) he ?_
    rwa [show line + (q + m) = line + q + m by omega]
theorem sk_comment (l : List UInt8) (n m : Nat) (h : Sk l n m) : Sk ([35, 32, 49, 46, 53, 32, 61, 10] ++ l) (8 + n) (1 + m) := by
  have e1 : ([32, 49, 46, 53, 32, 61, 10] ++ l).takeWhile lin = [32, 49, 46, 53, 32, 61] := tw_sep lin 10 (by decide) l [32, 49, 46, 53, 32, 61]
  have e2 : ([32, 49, 46, 53, 32, 61, 10] ++ l).dropWhile lin = 10 :: l := dw_sep lin 10 (by decide) l [32, 49, 46, 53, 32, 61]
  have := Sk.com (l := [32, 49, 46, 53, 32, 61, 10] ++ l) (n := n + 1) (m := m + 1) (by rw [e2]; exact .nl h)
  rw [e1] at this
  rw [show 8 + n = 1 + ([32, 49, 46, 53, 32, 61] : List UInt8).length + (n + 1) by simp only [List.length_cons, List.length_nil]; omega, show 1 + m = m + 1 by omega]
  exact this
theorem sk_blanks (l : List UInt8) (n m : Nat) (h : Sk l n m) : Sk ([9, 32] ++ l) (2 + n) (0 + m) := by
  rw [show 2 + n = n + 1 + 1 by omega, Nat.zero_add]
  exact .sp (.inr rfl) (.sp (.inl rfl) h)
/-! ### behind -/
theorem Sk.behind {l : List UInt8} {n m : Nat} (h : Sk l n m) : (l.drop n ≠ [] → Sk (l ++ [10, 32, 35]) n m) ∧ (l.drop n = [] → Sk (l ++ [10, 32, 35]) (n + 3) (m + 1)) := by
  induction h with
  | nil => exact ⟨fun h => absurd rfl h, fun _ => .nl (.sp (.inl rfl) (Sk.com (l := []) (n := 0) (m := 0) .nil))⟩
  | stop hb => exact ⟨fun _ => .stop hb, fun h => by cases h⟩
  | nl _ ih => exact ⟨fun h => .nl (ih.1 h), fun h => .nl (ih.2 h)⟩
  | sp hc _ ih => exact ⟨fun h => .sp hc (ih.1 h), fun h => .sp hc (ih.2 h)⟩
  | @com l n m _ ih =>
    have e1 : (l ++ [10, 32, 35]).takeWhile lin = l.takeWhile lin := tw_sep lin 10 (by decide) [32, 35] l
    have e2 : (l ++ [10, 32, 35]).dropWhile lin = l.dropWhile lin ++ [10, 32, 35] := dw_sep lin 10 (by decide) [32, 35] l
    rw [drop_com]
    constructor
    · intro h
      have := Sk.com (l := l ++ [10, 32, 35]) (by rw [e2]; exact ih.1 h)
      rw [e1] at this
      exact this
    · intro h
      have := Sk.com (l := l ++ [10, 32, 35]) (by rw [e2]; exact ih.2 h)
      rw [e1] at this
      exact this
theorem Tk.behind {l : List UInt8} {line : Nat} {acc : List S40} {res : List S40 × Int × Int} (h : Tk l line acc res) : Tk (l ++ [10, 32, 35]) line acc res := by
  induction h with
  | @done l n m line acc hS hd =>
    have hn : n = l.length := Nat.le_antisymm hS.le (List.drop_eq_nil_iff.1 hd)
    refine .done (hS.behind.2 hd) ?_
    rw [List.drop_of_length_le (by rw [List.length_append]; simp only [List.length_cons, List.length_nil]; omega)]
  | @err l n m line acc c r hS hd he =>
    have hd2 : (l ++ [10, 32, 35]).drop n = c :: (r ++ [10, 32, 35]) := by rw [List.drop_append_of_le_length hS.le, hd, List.cons_append]
    have hx := next_sep c r 10 (.inl rfl) [32, 35]
    have := Tk.err (line := line) (acc := acc) (hS.behind.1 (by rw [hd]; exact List.cons_ne_nil _ _)) hd2 (by rw [hx]; exact he)
    rw [hx] at this
    exact this
  | @tok l n m line acc c r res hS hd he _ ih =>
    have hd2 : (l ++ [10, 32, 35]).drop n = c :: (r ++ [10, 32, 35]) := by rw [List.drop_append_of_le_length hS.le, hd, List.cons_append]
    have hx := next_sep c r 10 (.inl rfl) [32, 35]
    obtain ⟨t1, t2⟩ := text_len c r he
    refine .tok (hS.behind.1 (by rw [hd]; exact List.cons_ne_nil _ _)) hd2 (by rw [hx]; exact he) ?_
    rw [hx]
    have e : (c :: (r ++ [10, 32, 35])).drop (nextL (c :: r)).2.1.length = (c :: r).drop (nextL (c :: r)).2.1.length ++ [10, 32, 35] := by
      rw [← List.cons_append, List.drop_append_of_le_length (by rw [List.length_cons]; omega)]
    rw [e]
    exact ih
/-! ### one line further -/
def inc (t : S40) : S40 := ⟨t.f0, t.f1 + 1, t.f2⟩
def incR (res : List S40 × Int × Int) : List S40 × Int × Int := (res.1.map inc, (if res.2.2 = 0 then res.2.1 else res.2.1 + 1), res.2.2)
theorem Tk.shift {l : List UInt8} {line : Nat} {acc : List S40} {res : List S40 × Int × Int} (h : Tk l line acc res) : Tk l (line + 1) (acc.map inc) (incR res) := by
  induction h with
  | done hS hd => exact .done hS hd
  | @err l n m line acc c r hS hd he =>
    have := Tk.err (line := line + 1) (acc := acc.map inc) hS hd he
    unfold incR
    simp only []
    rw [if_neg he, show (((line + m : Nat) : Int) + 1) = ((line + 1 + m : Nat) : Int) by omega]
    exact this
  | @tok l n m line acc c r res hS hd he _ ih =>
    refine .tok hS hd he ?_
    rw [List.map_append, show line + m + 1 = line + 1 + m by omega] at ih
    have e : [(⟨(nextL (c :: r)).1, ((line + m : Nat) : Int), mkb (nextL (c :: r)).2.1⟩ : S40)].map inc = [(⟨(nextL (c :: r)).1, ((line + 1 + m : Nat) : Int), mkb (nextL (c :: r)).2.1⟩ : S40)] := by
      show [inc _] = _
      unfold inc
      rw [show (((line + m : Nat) : Int) + 1) = ((line + 1 + m : Nat) : Int) by omega]
    rw [e] at ih
    exact ih
/-- Lines are small. -/
theorem Tk.lines {l : List UInt8} {line : Nat} {acc : List S40} {res : List S40 × Int × Int} (h : Tk l line acc res) : (∀ t ∈ res.1, t ∈ acc ∨ (0 ≤ t.f1 ∧ t.f1 ≤ ((line + l.length : Nat) : Int))) ∧ 0 ≤ res.2.1 ∧ res.2.1 ≤ ((line + l.length : Nat) : Int) := by
  induction h with
  | @done l n m line acc _ _ => exact ⟨fun t ht => .inl ht, Int.le_refl _, by show (0 : Int) ≤ ((line + l.length : Nat) : Int); omega⟩
  | @err l n m line acc c r hS hd he =>
    have h1 := hS.le
    have h2 := hS.line
    refine ⟨fun t ht => absurd ht List.not_mem_nil, ?_, ?_⟩
    · show (0 : Int) ≤ ((line + m : Nat) : Int)
      omega
    · show ((line + m : Nat) : Int) ≤ ((line + l.length : Nat) : Int)
      omega
  | @tok l n m line acc c r res hS hd he _ ih =>
    have h1 := hS.le
    have h2 := hS.line
    obtain ⟨t1, t2⟩ := text_len c r he
    have hlen := congrArg List.length hd
    rw [List.length_drop, List.length_cons] at hlen
    rw [List.length_drop, List.length_cons] at ih
    refine ⟨fun t ht => ?_, ih.2.1, by have := ih.2.2; omega⟩
    rcases ih.1 t ht with h | ⟨h3, h4⟩
    · rcases List.mem_append.1 h with h | h
      · exact .inl h
      · rw [List.mem_singleton] at h
        subst h
        exact .inr ⟨by show (0 : Int) ≤ ((line + m : Nat) : Int); omega, by show ((line + m : Nat) : Int) ≤ _; omega⟩
    · exact .inr ⟨h3, by omega⟩
end Go.Proofs.YtmcebojboffdoaaGreatDoor.P
