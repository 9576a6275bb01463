/-
  How a list of tokens that is passed in reads. Conditions: none. Tokens that are joined are read again from the text; the tokens of a text can be joined. Conditions: none. The law on joining and reading again is true. Conditions: lines of 64 bits. The card of the law 'TokenRoundTrips': for every input that the row's form admits, the law returns true and its argument reads as it did. Conditions: the row's own.
-/
import Derived.Test.YtmcebojboffdoaaGreatDoorRow
import Derived.Test.YtmcebojboffdoaaGreatDoorP0
import Derived.ChangeOld
import Derived.Carry
import Derived.DataElems
import Derived.Test.YtmcebojboffdoaaGreatDoorQs
import Derived.Test.YtmcebojboffdoaaGreatDoorP28
namespace Go.Proofs.YtmcebojboffdoaaGreatDoor.P
set_option linter.unusedVariables false
set_option linter.unusedSimpArgs false
open Go.RowKit Go.ChangeShapes Go.WideShapes Go.ChangeAt Go.Proofs.YtmcebojboffdoaaGreatDoorW.PrintWords
section
variable {H : Type} {enc : TypeId × Value → H} {w : World} {base : Nat} {sp : Nat → Bool} {held : Bool}
theorem laidOut : laidOutB Tryz.prog = true := by kernel_rfl
theorem sz_token : Tryz.prog.cellsOf 40 = 3 := by kernel_rfl
theorem sz_int : Tryz.prog.cellsOf 3 = 1 := by kernel_rfl
theorem sz_string : Tryz.prog.cellsOf 9 = 1 := by kernel_rfl
/-- One token. -/
theorem token_cells {n : Nat} {cs : List Value} {x : DataW H × List MemPlace} (h : DataW.trod enc Tryz.prog w base sp held n 40 cs = some x) :
    ∃ t : S40, cs = [.int .i64 t.f0, .int .i64 t.f1, .string t.f2] ∧ -9223372036854775808 ≤ t.f1 ∧ t.f1 ≤ 9223372036854775807 := by
  obtain ⟨xs, n, _, _, hl, hxl, hall⟩ := DataW.trod_struct Tryz.underlying40 h
  rw [sz_token] at hl
  rcases cs with _ | ⟨a, _ | ⟨b, _ | ⟨c, _ | ⟨d, r⟩⟩⟩⟩
  · simp at hl
  · simp at hl
  · simp at hl
  · skip
    have f0 : DataW.trod enc Tryz.prog w base sp held n 3 (([a, b, c].drop 0).take (Tryz.prog.cellsOf 3)) = xs[0]? := hall 0 _ rfl
    have f1 : DataW.trod enc Tryz.prog w base sp held n 3 (([a, b, c].drop 1).take (Tryz.prog.cellsOf 3)) = xs[1]? := hall 1 _ rfl
    have f2 : DataW.trod enc Tryz.prog w base sp held n 9 (([a, b, c].drop 2).take (Tryz.prog.cellsOf 9)) = xs[2]? := hall 2 _ rfl
    have hx : xs.length = 3 := hxl
    obtain ⟨y0, hy0⟩ : ∃ y, xs[0]? = some y := ⟨xs[0]'(by omega), List.getElem?_eq_getElem (by omega)⟩
    obtain ⟨y1, hy1⟩ : ∃ y, xs[1]? = some y := ⟨xs[1]'(by omega), List.getElem?_eq_getElem (by omega)⟩
    obtain ⟨y2, hy2⟩ : ∃ y, xs[2]? = some y := ⟨xs[2]'(by omega), List.getElem?_eq_getElem (by omega)⟩
    rw [hy0] at f0
    rw [hy1] at f1
    rw [hy2] at f2
    rw [sz_int] at f0 f1
    rw [sz_string] at f2
    obtain ⟨n0, e0, _, _⟩ := DataW.trod_int Tryz.underlying3 f0
    obtain ⟨n1, e1, _, w1⟩ := DataW.trod_int Tryz.underlying3 f1
    obtain ⟨s2, e2, _, _⟩ := DataW.trod_string Tryz.underlying9 f2
    have e0' : a = .int .i64 n0 := by simpa using e0
    have e1' : b = .int .i64 n1 := by simpa using e1
    have e2' : c = .string s2 := by simpa using e2
    have hw : -9223372036854775808 ≤ n1 ∧ n1 ≤ 9223372036854775807 := by simpa [Lit.wf, IntKind.min, IntKind.max, IntKind.signed, IntKind.bits] using w1
    exact ⟨⟨n0, n1, s2⟩, by rw [e0', e1', e2'], hw.1, hw.2⟩
  · simp at hl
/-- A list of tokens. -/
theorem open_tokens {A : Option Addr} {len cap fuel : Nat} {x : DataW H × List MemPlace} (h : DataW.trod enc Tryz.prog w base sp held fuel 26 [.slice A len cap] = some x) :
    ∃ l : List S40, l.length = len ∧ len ≤ cap ∧ Kd.C k40 w A l.length l ∧ ∀ t ∈ l, -9223372036854775808 ≤ t.f1 ∧ t.f1 ≤ 9223372036854775807 := by
  rcases DataW.trod_slice Tryz.underlying26 h with ⟨h0, _⟩ | ⟨a, len', cap', elems, rest, n, _, hcs, _, hb, hl, hm, hlen, hel, _⟩
  · simp only [List.cons.injEq, Value.slice.injEq, and_true] at h0
    obtain ⟨rfl, rfl, rfl⟩ := h0
    exact ⟨[], rfl, Nat.le_refl _, ⟨rfl, by decide, fun h => absurd h (by decide)⟩, fun t ht => absurd ht List.not_mem_nil⟩
  · simp only [List.cons.injEq, Value.slice.injEq, and_true] at hcs
    obtain ⟨rfl, rfl, rfl⟩ := hcs
    have each : ∀ i, i < len → ∃ t : S40, w.cells? base (a.add (i * 3)) 3 = some [.int .i64 t.f0, .int .i64 t.f1, .string t.f2] ∧ -9223372036854775808 ≤ t.f1 ∧ t.f1 ≤ 9223372036854775807 := by
      intro i hi
      have h1 := hel i hi
      rw [List.getElem?_eq_getElem (by omega), Option.bind_eq_some_iff] at h1
      obtain ⟨cs, hc, ht⟩ := h1
      rw [sz_token] at hc
      obtain ⟨t, rfl, w1, w2⟩ := token_cells ht
      exact ⟨t, hc, w1, w2⟩
    have hmax : len ≤ 9223372036854775807 := by
      have : maxLen ≤ 9223372036854775807 := by decide
      omega
    -- the tokens, one after another
    have build : ∀ k, k ≤ len → ∃ l : List S40, l.length = k ∧ ∀ i t, l[i]? = some t → w.cells? base (a.add (i * 3)) 3 = some [.int .i64 t.f0, .int .i64 t.f1, .string t.f2] ∧ -9223372036854775808 ≤ t.f1 ∧ t.f1 ≤ 9223372036854775807 := by
      intro k
      induction k with
      | zero => intro _; exact ⟨[], rfl, fun i t h => by simp at h⟩
      | succ k ih =>
        intro hk
        obtain ⟨l, h1, h2⟩ := ih (by omega)
        obtain ⟨t, h3⟩ := each k (by omega)
        refine ⟨l ++ [t], by simp [h1], fun i u hu => ?_⟩
        rcases Nat.lt_or_ge i l.length with g | g
        · rw [List.getElem?_append_left g] at hu
          exact h2 i u hu
        · rw [List.getElem?_append_right g] at hu
          have hi : i - l.length = 0 := by
            rcases Nat.eq_zero_or_pos (i - l.length) with g2 | g2
            · exact g2
            · rw [List.getElem?_eq_none (by simp only [List.length_singleton]; omega)] at hu
              cases hu
          rw [hi] at hu
          have e : t = u := by simpa using hu
          rw [← e, show i = k by omega]
          exact h3
    obtain ⟨l, h1, h2⟩ := build len (Nat.le_refl _)
    refine ⟨l, h1, hl, ⟨rfl, by omega, fun _ => ⟨a, rfl, fun j p hp => ?_⟩⟩, fun t ht => ?_⟩
    · obtain ⟨h3, _⟩ := h2 j p hp
      refine ⟨_, rfl, k40_mk w p, fun i u hu => ?_⟩
      have hi : i < 3 := by
        have := (List.getElem?_eq_some_iff.1 hu).1
        simpa using this
      obtain ⟨_, _, hq⟩ := World.cells?_some h3
      have h4 := hq i hi
      rw [hu] at h4
      rw [← h4]
      show w.cell? (a.add (j * 3 + i)) = w.cell? ((a.add (j * 3)).add i)
      rw [Addr.add_add]
    · obtain ⟨i, hi⟩ := List.getElem?_of_mem ht
      exact (h2 i t hi).2
end
end Go.Proofs.YtmcebojboffdoaaGreatDoor.P
namespace Go.Proofs.YtmcebojboffdoaaGreatDoor.P
set_option linter.unusedVariables false
set_option linter.unusedSimpArgs false
open Go.RowKit Go.Proofs.YtmcebojboffdoaaGreatDoorW.PrintWords Go.Proofs.YtmcebojboffdoaaGreatDoorW.PrintLast Go.Proofs.YtmcebojboffdoaaGreatDoorW.PrintMore
/-- What stands behind a token in a joined text: nothing, a line feed or a space. -/
def sepd (y : List UInt8) : Prop := y = [] ∨ ∃ x z, y = x :: z ∧ (x = 10 ∨ x = 32)
theorem joinT_sep (x : Int) (l : List S40) : sepd (joinT false x l) := by
  cases l with
  | nil => exact .inl rfl
  | cons t l =>
    right
    show ∃ a z, gapL false (t.f1 - x).toNat ++ bl t.f2 ++ joinT false t.f1 l = a :: z ∧ _
    generalize (t.f1 - x).toNat = g
    unfold gapL
    cases g with
    | zero => exact ⟨32, bl t.f2 ++ joinT false t.f1 l, by simp, .inr rfl⟩
    | succ g => exact ⟨10, List.replicate g 10 ++ (if false = false ∧ g + 1 = 0 then [32] else []) ++ bl t.f2 ++ joinT false t.f1 l, by rw [List.replicate_succ]; simp only [List.cons_append], .inl rfl⟩
theorem next_sepd (c : UInt8) (r y : List UInt8) (hy : sepd y) : nextL (c :: (r ++ y)) = nextL (c :: r) := by
  rcases hy with rfl | ⟨x, z, rfl, hx⟩
  · rw [List.append_nil]
  · exact next_sep c r x hx z
theorem sk_feeds (c : UInt8) (r : List UInt8) (hc : blank c = false) : ∀ g : Nat, Sk (List.replicate g 10 ++ (c :: r)) g g
  | 0 => .stop hc
  | g + 1 => by
    rw [List.replicate_succ, List.cons_append]
    exact .nl (sk_feeds c r hc g)
theorem sk_gap (f : Bool) (g : Nat) (c : UInt8) (r : List UInt8) (hc : blank c = false) : Sk (gapL f g ++ (c :: r)) (gapL f g).length g := by
  unfold gapL
  by_cases h : f = false ∧ g = 0
  · obtain ⟨rfl, rfl⟩ := h
    rw [if_pos ⟨rfl, rfl⟩]
    exact .sp (.inl rfl) (.stop hc)
  · rw [if_neg h, List.append_nil, List.length_replicate]
    exact sk_feeds c r hc g
/-- The joined text is read again. -/
theorem joined : ∀ (l : List S40) (f : Bool) (line : Nat) (acc : List S40), okL (line : Int) l → Tk (joinT f (line : Int) l) line acc (acc ++ l, 0, 0)
  | [], f, line, acc, _ => by
    rw [List.append_nil]
    exact .done .nil rfl
  | t :: l, f, line, acc, h => by
    obtain ⟨⟨c, r, e1, e2, e3⟩, h2, h3⟩ := h
    obtain ⟨g, hg⟩ : ∃ g : Nat, t.f1 = ((line + g : Nat) : Int) := ⟨(t.f1 - (line : Int)).toNat, by omega⟩
    have hg2 : (t.f1 - (line : Int)).toNat = g := by omega
    have ih := joined l false (line + g) (acc ++ [t]) (by rw [← hg]; exact h3)
    rw [← hg, List.append_assoc, List.singleton_append] at ih
    have hsep := joinT_sep t.f1 l
    have hJ : joinT f (line : Int) (t :: l) = gapL f g ++ (c :: (r ++ joinT false t.f1 l)) := by
      show gapL f (t.f1 - (line : Int)).toNat ++ bl t.f2 ++ joinT false t.f1 l = _
      rw [hg2, e1, List.append_assoc, List.cons_append]
    have hx := next_sepd c r _ hsep
    rw [e3] at hx
    rw [hJ]
    refine .tok (sk_gap f g c _ e2) (List.drop_left) (by rw [hx]) ?_
    rw [hx]
    have hd : (c :: (r ++ joinT false t.f1 l)).drop (c :: r).length = joinT false t.f1 l := by rw [← List.cons_append, List.drop_left]
    have ht : (⟨t.f0, ((line + g : Nat) : Int), mkb (c :: r)⟩ : S40) = t := by
      rw [← hg, ← e1, mkb_bl]
    show Tk ((c :: (r ++ joinT false t.f1 l)).drop (c :: r).length) (line + g) (acc ++ [(⟨t.f0, ((line + g : Nat) : Int), mkb (c :: r)⟩ : S40)]) _
    rw [hd, ht]
    exact ih
/-! ### the tokens of a text fit -/
theorem tw_idem {α : Type} (q : α → Bool) (l : List α) : (l.takeWhile q).takeWhile q = l.takeWhile q := tw_eq_of_all q _ (tw_all q l)
theorem next_self (c : UInt8) (r : List UInt8) (h : (nextL (c :: r)).2.2 = 0) : ∃ r', (nextL (c :: r)).2.1 = c :: r' ∧ nextL (c :: r') = nextL (c :: r) := by
  rw [nextL_cons] at h ⊢
  by_cases hl : low c = true
  · rw [if_pos hl] at h ⊢
    have h1 : (c :: r).takeWhile nam = c :: r.takeWhile nam := by rw [List.takeWhile_cons, if_pos (low_nam hl)]
    have h2 : (c :: r.takeWhile nam).takeWhile nam = c :: r.takeWhile nam := by rw [← h1]; exact tw_idem nam _
    refine ⟨r.takeWhile nam, ?_, ?_⟩
    · rw [h1] at h ⊢
      by_cases hw : wordB (c :: r.takeWhile nam) = true
      · rw [if_pos hw]
      · rw [if_neg hw] at h ⊢
        by_cases h16 : (c :: r.takeWhile nam).length > 16
        · rw [if_pos h16] at h; exact absurd h (by decide)
        · rw [if_neg h16]
    · rw [nextL_cons, if_pos hl, h1, h2]
  · rw [if_neg hl] at h ⊢
    by_cases hd : dig c = true
    · rw [if_pos hd] at h ⊢
      have h1 : (c :: r).takeWhile num = c :: r.takeWhile num := by rw [List.takeWhile_cons, if_pos (dig_num hd)]
      have h2 : (c :: r.takeWhile num).takeWhile num = c :: r.takeWhile num := by rw [← h1]; exact tw_idem num _
      refine ⟨r.takeWhile num, ?_, ?_⟩
      · rw [h1] at h ⊢
        exact numL_text _ (List.cons_ne_nil _ _) h
      · rw [nextL_cons, if_neg hl, if_pos hd, h1, h2]
    · rw [if_neg hd] at h ⊢
      rw [findM_cons, marks_same'] at h ⊢
      have hm : markC c (eqNext r) = 0 ∨ markC c (eqNext r) = 1 ∨ (markC c (eqNext r) = 2 ∧ eqNext r = true) := by
        unfold markC
        split
        · rename_i g; exact .inr (.inr ⟨rfl, g.1⟩)
        · split
          · exact .inr (.inl rfl)
          · exact .inl rfl
      rcases hm with g | g | ⟨g, hq⟩
      · rw [g] at h; exact absurd (show (2 : Int) = 0 from h) (by decide)
      · have hc : c ∈ singles := by
          unfold markC at g
          split at g
          · cases g
          · split at g
            · assumption
            · cases g
        have g2 : markC c (eqNext []) = 1 := by
          unfold markC
          rw [if_neg (by rintro ⟨h, _⟩; exact absurd h (by decide)), if_pos hc]
        rw [g]
        refine ⟨[], rfl, ?_⟩
        rw [nextL_cons, if_neg hl, if_neg hd, findM_cons, marks_same', g2]
      · have g2 : markC c (eqNext [61]) = 2 := by rw [show eqNext [61] = eqNext r from hq.symm ▸ rfl]; exact g
        rw [g]
        refine ⟨[61], rfl, ?_⟩
        rw [nextL_cons, if_neg hl, if_neg hd, findM_cons, marks_same', g2]
/-- The tokens behind those that were there. -/
theorem Tk.fits {l : List UInt8} {line : Nat} {acc : List S40} {res : List S40 × Int × Int} (h : Tk l line acc res) : res.2.2 = 0 → ∃ m, res.1 = acc ++ m ∧ okL (line : Int) m ∧ (∀ t ∈ m, t.f2.size ≤ l.length) ∧ (joinT false (line : Int) m).length ≤ 2 * l.length := by
  induction h with
  | done => intro _; exact ⟨[], by simp, trivial, fun t ht => absurd ht List.not_mem_nil, Nat.zero_le _⟩
  | err _ _ he => intro h; exact absurd h he
  | @tok l n m line acc c r res hS hd he hT ih =>
    intro h
    obtain ⟨q, hq, hok, hsz, hlen⟩ := ih h
    obtain ⟨t1, t2⟩ := text_len c r he
    have hn := hS.le
    have hml := hS.line
    have hlen2 := congrArg List.length hd
    rw [List.length_drop, List.length_cons] at hlen2
    rw [List.length_drop, List.length_cons] at hlen
    obtain ⟨r', e1, e2⟩ := next_self c r he
    have hfit : fitP ⟨(nextL (c :: r)).1, ((line + m : Nat) : Int), mkb (nextL (c :: r)).2.1⟩ := by
      refine ⟨c, r', e1, hS.head hd, ?_⟩
      rw [e2]
      show nextL (c :: r) = ((nextL (c :: r)).1, c :: r', 0)
      rw [← e1, ← he]
    refine ⟨_ :: q, by rw [hq, List.append_assoc]; rfl, ⟨hfit, by show (line : Int) ≤ ((line + m : Nat) : Int); omega, hok⟩, ?_, ?_⟩
    · intro t ht
      rcases List.mem_cons.1 ht with g | g
      · rw [g]
        show (nextL (c :: r)).2.1.length ≤ l.length
        omega
      · have := hsz t g
        rw [List.length_drop, List.length_cons] at this
        omega
    · show (gapL false (((line + m : Nat) : Int) - (line : Int)).toNat ++ (nextL (c :: r)).2.1 ++ joinT false ((line + m : Nat) : Int) q).length ≤ 2 * l.length
      rw [show (((line + m : Nat) : Int) - (line : Int)).toNat = m by omega, List.length_append, List.length_append]
      have hgl := gapL_len false m
      omega
theorem Tk.err_nil {l : List UInt8} {line : Nat} {acc : List S40} {res : List S40 × Int × Int} (h : Tk l line acc res) : res.2.2 ≠ 0 → res.1 = [] := by
  induction h with
  | done => intro h; exact absurd rfl h
  | err => intro _; rfl
  | tok _ _ _ _ ih => exact ih
theorem joinT_first (x : Int) (l : List S40) : (joinT true x l).length ≤ (joinT false x l).length := by
  cases l with
  | nil => exact Nat.le_refl _
  | cons t l =>
    show (gapL true (t.f1 - x).toNat ++ bl t.f2 ++ joinT false t.f1 l).length ≤ (gapL false (t.f1 - x).toNat ++ bl t.f2 ++ joinT false t.f1 l).length
    rw [List.length_append, List.length_append, List.length_append, List.length_append]
    have : (gapL true (t.f1 - x).toNat).length ≤ (gapL false (t.f1 - x).toNat).length := by
      unfold gapL
      rw [if_neg (show ¬ (true = false ∧ (t.f1 - x).toNat = 0) by rintro ⟨h, _⟩; exact absurd h (by decide)), List.append_nil, List.length_append]
      omega
    omega
end Go.Proofs.YtmcebojboffdoaaGreatDoor.P
namespace Go.Proofs.YtmcebojboffdoaaGreatDoor.P
set_option linter.unusedVariables false
set_option linter.unusedSimpArgs false
open Go.RowKit Go.Proofs.YtmcebojboffdoaaGreatDoorW.PrintWords Go.Proofs.YtmcebojboffdoaaGreatDoorW.PrintLast Go.Proofs.YtmcebojboffdoaaGreatDoorW.PrintMore
theorem joinR_ok (l : List S40) (h : okL 1 l) (h2 : (joinT true 1 l).length ≤ 2048) : joinR l = (mkb (joinT true 1 l), 0) := by
  unfold joinR
  rw [if_pos h, if_pos h2]
theorem round_j1 (s : ByteArray) (hs : s.size ≤ 2100) (k : Nat) (hk : 1000000 ≤ k) : corebanklaw09_TokenRoundTrips.j1 k s = some true := by
  obtain ⟨k, rfl⟩ : ∃ m, k = m + 1 := ⟨k - 1, by omega⟩
  simp only [corebanklaw09_TokenRoundTrips.j1]
  by_cases h1 : s.size ≤ 2048
  · obtain ⟨res, hT⟩ := Tk.ex (bl s).length (bl s) 1 [] (Nat.le_refl _)
    have hlen := hT.len
    rw [bl_len, List.length_nil] at hlen
    rw [tokT_eq s h1 hT k (by omega)]
    simp only [Option.bind_some]
    by_cases he : res.2.2 = 0
    · rw [if_pos he]
      obtain ⟨m, hm, hok, hsz, hjl⟩ := hT.fits he
      rw [List.nil_append] at hm
      rw [bl_len] at hsz hjl
      have hlines := hT.lines.1
      rw [bl_len] at hlines
      have hsm : small res.1 := ⟨by omega, fun t ht => ⟨by rw [hm] at ht; have := hsz t ht; omega, by
        rcases hlines t ht with g | ⟨g1, g2⟩
        · exact absurd g List.not_mem_nil
        · omega⟩⟩
      rw [join_eq res.1 hsm k (by omega)]
      simp only [Option.bind_some]
      have hok1 : okL 1 res.1 := by rw [hm]; exact hok
      by_cases hj : (joinT true 1 res.1).length ≤ 2048
      · rw [joinR_ok res.1 hok1 hj]
        have hT2 := joined res.1 true 1 [] hok1
        rw [List.nil_append] at hT2
        rw [if_neg (show ¬ ((mkb (joinT true 1 res.1), (0 : Int)).2 = 5) from (by decide : ¬ ((0 : Int) = 5))), tokT_eq (mkb (joinT true 1 res.1)) hj hT2 k (by omega)]
        simp only [Option.bind_some]
        rw [if_pos trivial, if_pos trivial, same_refl res.1 (by omega) k (by omega), lives_at k (by omega)]
        simp only [Option.bind_some]
        rw [if_pos trivial]
      · have hjf := joinT_first 1 res.1
        rw [hm] at hj hjf
        have : s.size > 1024 := by
          have e : (joinT false ((1 : Nat) : Int) m).length = (joinT false 1 m).length := rfl
          omega
        have hR : joinR res.1 = ((⟨#[]⟩ : ByteArray), 5) := by
          unfold joinR
          rw [if_pos hok1, if_neg (by rw [hm]; exact hj)]
        rw [hR, if_pos rfl, if_pos (by omega), lives_at k (by omega)]
        rfl
    · have hz : res.1 = [] := hT.err_nil he
      rw [if_neg he, hz, lives_at k (by omega)]
      rfl
  · have h2 : token_Tokenize.f k s = some ([], 0, 5) := by unfold token_Tokenize.f; rw [if_pos (by omega)]
    rw [h2, lives_at k (by omega)]
    rfl
theorem round_at (l : List S40) (s : ByteArray) (hl : ∀ t ∈ l, -9223372036854775808 ≤ t.f1 ∧ t.f1 ≤ 9223372036854775807) (k : Nat) (hk : 2000000 ≤ k) : corebanklaw09_TokenRoundTrips.f k l s = some true := by
  obtain ⟨k, rfl⟩ : ∃ m, k = m + 1 := ⟨k - 1, by omega⟩
  unfold corebanklaw09_TokenRoundTrips.f
  obtain ⟨b, hb, h⟩ := short_eq l (k + 1) (by omega)
  have hlive : corebanklaw09_TokenRoundTrips.j0 (k + 1) l s true = some true := by
    simp only [corebanklaw09_TokenRoundTrips.j0]
    rw [if_pos trivial, lives_at k (by omega)]
    rfl
  rw [hb]
  simp only [Option.bind_some]
  cases b with
  | false => rw [if_neg (by decide), hlive]
  | true =>
    rw [if_pos rfl]
    by_cases h0 : (s.size : Int) > 2100
    · rw [decide_eq_true h0, hlive]
    · rw [decide_eq_false h0]
      obtain ⟨h1, h2⟩ := h rfl
      have hs : small l := ⟨by omega, fun t ht => ⟨by have := h2 t ht; omega, hl t ht⟩⟩
      have hj1 := round_j1 s (by omega) k (by omega)
      simp only [corebanklaw09_TokenRoundTrips.j0]
      rw [if_neg (by decide), join_eq l hs k (by omega), hj1]
      simp only [Option.bind_some]
      by_cases hok : okL 1 l ∧ (joinT true 1 l).length ≤ 2048
      · rw [joinR_ok l hok.1 hok.2]
        have hT2 := joined l true 1 [] hok.1
        rw [List.nil_append] at hT2
        rw [if_pos rfl, tokT_eq (mkb (joinT true 1 l)) hok.2 hT2 k (by omega)]
        simp only [Option.bind_some]
        rw [same_refl l (by omega) k (by omega)]
        simp only [Option.bind_some]
        rw [if_pos trivial, if_pos trivial, if_pos trivial]
      · have hR : (joinR l).2 ≠ 0 := by
          unfold joinR
          by_cases g : okL 1 l
          · rw [if_pos g, if_neg (fun g2 => hok ⟨g, g2⟩)]
            decide
          · rw [if_neg g]
            decide
        rw [if_neg hR]
/-- The law on joining and reading again is true. -/
theorem tokenRoundTrips_true (l : List S40) (s : ByteArray) (hl : ∀ t ∈ l, -9223372036854775808 ≤ t.f1 ∧ t.f1 ≤ 9223372036854775807) : ∃ k, corebanklaw09_TokenRoundTrips.f k l s = some true := by
  obtain ⟨k, hk⟩ : ∃ k, 2000000 ≤ k := ⟨2000000, Nat.le_refl _⟩
  exact ⟨k, round_at l s hl k hk⟩
end Go.Proofs.YtmcebojboffdoaaGreatDoor.P
namespace Go.Proofs.YtmcebojboffdoaaGreatDoor.P
open Go.RowKit Go.ChangeShapes Go.WideShapes Go.ChangeAt
open Go.ChangeMaps (open_string shut_string)
set_option linter.unusedVariables false
namespace LTokenRoundTrips
theorem own : ownKnob Tryz.prog.godebug = none := by kernel_rfl
set_option maxRecDepth 100000 in
theorem lifted (os : Os) (started : os.Started) (H : Type) (enc : TypeId × Value → H) :
    ReturnsInHanded {} Tryz.checked os 6 .any (fun w args => (Rows.tokenRoundTripsSpec.pre enc Tryz.prog Tryz.f6 [] false w args ∧ laidMetH Tryz.prog laidL w) ∧ sizedMet enc Tryz.prog Tryz.f6 (OpenSpec.ofChange Rows.tokenRoundTripsSpec) false w args)
      (Rows.tokenRoundTripsSpec.post enc Tryz.prog Tryz.f6 false true false false) := by
  refine wrap (C := Tryz.checked) (X := fun w _ => laidMetH Tryz.prog laidL w) (fun _ _ _ hh h => h.of_heap hh) own started (by kernel_rfl) Tryz.func6
    (ChangeSpec.witness_shaped (enc := enc) (C := Tryz.checked) (os := os) (X := fun w _ => laidMetH Tryz.prog laidL w) false (World.laidAll Tryz.prog os laidL) #[.slice none 0 0, .string ByteArray.empty] 8 (World.laidAll_os _ _ _)
      (laidL_zip os _) (by kernel_rfl) (by kernel_rfl) (by kernel_rfl) (laidL_met os _)) ?_
  intro W base args ds gs before hval0 hW _ hsz0 hL hS
  have hsz : (DataW.weightsEach Tryz.prog (Tryz.f6.params.toList ++ Rows.tokenRoundTripsSpec.plain.varTypes Tryz.prog) (ds ++ gs)).all (· ≤ reachBytes) = true := hsz0
  have hval : ∀ (j : Nat) t v, Tryz.f6.params[j]? = some t → args[j]? = some v → Value.okWide Tryz.prog W .any base t v := hval0
  have hG : Gl W := gl_of hL hS
  have hW' := hW
  obtain ⟨p, q, hA0, hV, rfl, _, _⟩ := hW
  have hA : DataW.TrodAll enc Tryz.prog W 0 (fun _ => true) true Tryz.f6.params.toList args.toList ds p := hA0
  rw [Tryz.params6] at hA hval hsz
  obtain ⟨v0, v1, d0, d1, p0, p1, rfl, rfl, rfl, h0, h1⟩ := trodAll_two hA
  obtain ⟨rfl, rfl⟩ := trodVars_none hV
  obtain ⟨A, len, cap, rfl⟩ := okWide_slice Tryz.underlying26 (hval 0 26 v0 rfl rfl)
  have k0 := h0
  have lt0 : ∀ x ∈ p0, x.block < W.heap.size := by obtain ⟨m, hm⟩ := k0; exact DataW.trod_lt m _ _ _ hm
  obtain ⟨l, hl, hcap, hC, hln⟩ := (let ⟨_, hf⟩ := h0; open_tokens hf)
  subst hl
  obtain ⟨x, rfl, rfl, rfl, wx⟩ := open_string Tryz.underlying9 (hval 1 9 v1 rfl rfl) h1
  obtain ⟨k, hk⟩ := tokenRoundTrips_true l x hln
  simp only [List.append_nil] at hW'
  refine (corebanklaw09_TokenRoundTrips.calls k A cap l x true W hC hcap hG hk).mono fun e W' ⟨he, hb⟩ => ?_
  subst he
  exact ⟨_, rfl, _, _, _, [], _, [], hW', trodAll_mk1 (shut_bool Tryz.underlying4 _), trodAll_mk2 (Below.trod laidOut (by kernel_rfl) (of_decide_eq_true (by kernel_rfl)) k0 hb lt0) (shut_string Tryz.underlying9 wx), rfl, hb.frame _, fun h => by cases h⟩
theorem over : Rows.tokenRoundTripsRow.holds Tryz.pinned (OpenSpec.ofChange Rows.tokenRoundTripsSpec) :=
  OpenClaim.holds_of_wide 6 Tryz.f6 rfl rfl rfl rfl rfl rfl rfl ⟨rfl, rfl, rfl, rfl, rfl⟩ rfl rfl rfl rfl rfl (by kernel_rfl) Tryz.func6 (by kernel_rfl)
    (of_decide_eq_true (by kernel_rfl)) (by unfold Func.isWrapper; first | (rw [if_pos (by decide +kernel)]; kernel_rfl) | (rw [if_neg (by decide +kernel)]; exact ⟨rfl, rfl⟩))
    (fun os started H enc _ => lifted os started H enc)
theorem card : Rows.TokenRoundTripsCardSaid :=
  Claim7.holds_tied_plain_at .later [] [.data, .data, .data, .data, .sentinel, .sentinel, .listed, .data, .pinned] true (true, "d15288922e3957ccf88c2193be2082afd1fbc586afe57e80d4068688c23d23b6") true over (fun _ h => by cases h) (by kernel_rfl) (fun _ h => by cases h) tokenRoundTrips_row_tie rfl ⟨rfl, rfl⟩ (by kernel_rfl) rfl
    (fun f fn hf hfn => by
      obtain rfl : f = 6 := Option.some.inj ((show Tryz.prog.funcNamed "corebank/corebanklaw09.TokenRoundTrips" = some 6 by kernel_rfl).symm.trans hf) |>.symm
      obtain rfl : fn = Tryz.f6 := (Option.some.inj (Tryz.func6.symm.trans hfn)).symm
      exact ⟨by kernel_rfl, fun j t ht => by
        rw [Tryz.params6] at ht
        have hm : t ∈ [26, 9] := by simpa using Array.mem_of_getElem? ht
        have hall : ([26, 9].all fun u => !Tryz.prog.wantsStandIn u) = true := by kernel_rfl
        exact (show Tryz.prog.wantsStandIn t = false by simpa using List.all_eq_true.1 hall t hm)⟩)
    (by kernel_rfl)
end LTokenRoundTrips
/-- The card, under a short name, for the claim. -/
theorem tokenRoundTrips_card : Rows.TokenRoundTripsCardSaid := LTokenRoundTrips.card
end Go.Proofs.YtmcebojboffdoaaGreatDoor.P
