/-
  How a list of tokens that is passed in reads. Conditions: none. Tokens that are the only one of their text; the text of a list of tokens. Conditions: texts of at most 2048 bytes, lines of 64 bits. Lists of tokens that the laws call short. Conditions: none. The reference's text of a list of tokens is the program's. Conditions: at most 100000 tokens with texts of at most 2048 bytes, lines of 64 bits. The law on joining is true. Conditions: lines of 64 bits. The card of the law 'TokenJoins': for every input that the row's form admits, the law returns true and its argument reads as it did. Conditions: the row's own.
-/
import Derived.Test.YtmcebojboffdoaaGreatDoorRow
import Derived.Test.YtmcebojboffdoaaGreatDoorP0
import Derived.ChangeOld
import Derived.Carry
import Derived.DataElems
import Derived.Test.YtmcebojboffdoaaGreatDoorQu
import Derived.Test.YtmcebojboffdoaaGreatDoorP11
import Derived.Test.YtmcebojboffdoaaGreatDoorJoin
import Derived.Test.YtmcebojboffdoaaGreatDoorP24
import Derived.Test.YtmcebojboffdoaaGreatDoorQk
import Derived.Test.YtmcebojboffdoaaGreatDoorP26
import Derived.Test.YtmcebojboffdoaaGreatDoorP27
namespace Go.Proofs.YtmcebojboffdoaaGreatDoor.P
set_option linter.unusedVariables false
set_option linter.unusedSimpArgs false
open Go.RowKit Go.ChangeShapes Go.WideShapes Go.ChangeAt Go.Proofs.YtmcebojboffdoaaGreatDoorW.PrintWords
section
variable {H : Type} {enc : TypeId × Value → H} {w : World} {base : Nat} {sp : Nat → Bool} {held : Bool}
theorem laidOut : laidOutB Tryz.prog = true := by kernel_rfl
theorem sz_token : Tryz.prog.cellsOf 40 = 3 := by kernel_rfl
theorem sz_int : Tryz.prog.cellsOf 3 = 1 := by kernel_rfl
theorem sz_string : Tryz.prog.cellsOf 9 = 1 := by kernel_rfl
/-- One token. -/
theorem token_cells {n : Nat} {cs : List Value} {x : DataW H × List MemPlace} (h : DataW.trod enc Tryz.prog w base sp held n 40 cs = some x) :
    ∃ t : S40, cs = [.int .i64 t.f0, .int .i64 t.f1, .string t.f2] ∧ -9223372036854775808 ≤ t.f1 ∧ t.f1 ≤ 9223372036854775807 := by
  obtain ⟨xs, n, _, _, hl, hxl, hall⟩ := DataW.trod_struct Tryz.underlying40 h
  rw [sz_token] at hl
  rcases cs with _ | ⟨a, _ | ⟨b, _ | ⟨c, _ | ⟨d, r⟩⟩⟩⟩
  · simp at hl
  · simp at hl
  · simp at hl
  · skip
    have f0 : DataW.trod enc Tryz.prog w base sp held n 3 (([a, b, c].drop 0).take (Tryz.prog.cellsOf 3)) = xs[0]? := hall 0 _ rfl
    have f1 : DataW.trod enc Tryz.prog w base sp held n 3 (([a, b, c].drop 1).take (Tryz.prog.cellsOf 3)) = xs[1]? := hall 1 _ rfl
    have f2 : DataW.trod enc Tryz.prog w base sp held n 9 (([a, b, c].drop 2).take (Tryz.prog.cellsOf 9)) = xs[2]? := hall 2 _ rfl
    have hx : xs.length = 3 := hxl
    obtain ⟨y0, hy0⟩ : ∃ y, xs[0]? = some y := ⟨xs[0]'(by omega), List.getElem?_eq_getElem (by omega)⟩
    obtain ⟨y1, hy1⟩ : ∃ y, xs[1]? = some y := ⟨xs[1]'(by omega), List.getElem?_eq_getElem (by omega)⟩
    obtain ⟨y2, hy2⟩ : ∃ y, xs[2]? = some y := ⟨xs[2]'(by omega), List.getElem?_eq_getElem (by omega)⟩
    rw [hy0] at f0
    rw [hy1] at f1
    rw [hy2] at f2
    rw [sz_int] at f0 f1
    rw [sz_string] at f2
    obtain ⟨n0, e0, _, _⟩ := DataW.trod_int Tryz.underlying3 f0
    obtain ⟨n1, e1, _, w1⟩ := DataW.trod_int Tryz.underlying3 f1
    obtain ⟨s2, e2, _, _⟩ := DataW.trod_string Tryz.underlying9 f2
    have e0' : a = .int .i64 n0 := by simpa using e0
    have e1' : b = .int .i64 n1 := by simpa using e1
    have e2' : c = .string s2 := by simpa using e2
    have hw : -9223372036854775808 ≤ n1 ∧ n1 ≤ 9223372036854775807 := by simpa [Lit.wf, IntKind.min, IntKind.max, IntKind.signed, IntKind.bits] using w1
    exact ⟨⟨n0, n1, s2⟩, by rw [e0', e1', e2'], hw.1, hw.2⟩
  · simp at hl
/-- A list of tokens. -/
theorem open_tokens {A : Option Addr} {len cap fuel : Nat} {x : DataW H × List MemPlace} (h : DataW.trod enc Tryz.prog w base sp held fuel 26 [.slice A len cap] = some x) :
    ∃ l : List S40, l.length = len ∧ len ≤ cap ∧ Kd.C k40 w A l.length l ∧ ∀ t ∈ l, -9223372036854775808 ≤ t.f1 ∧ t.f1 ≤ 9223372036854775807 := by
  rcases DataW.trod_slice Tryz.underlying26 h with ⟨h0, _⟩ | ⟨a, len', cap', elems, rest, n, _, hcs, _, hb, hl, hm, hlen, hel, _⟩
  · simp only [List.cons.injEq, Value.slice.injEq, and_true] at h0
    obtain ⟨rfl, rfl, rfl⟩ := h0
    exact ⟨[], rfl, Nat.le_refl _, ⟨rfl, by decide, fun h => absurd h (by decide)⟩, fun t ht => absurd ht List.not_mem_nil⟩
  · simp only [List.cons.injEq, Value.slice.injEq, and_true] at hcs
    obtain ⟨rfl, rfl, rfl⟩ := hcs
    have each : ∀ i, i < len → ∃ t : S40, w.cells? base (a.add (i * 3)) 3 = some [.int .i64 t.f0, .int .i64 t.f1, .string t.f2] ∧ -9223372036854775808 ≤ t.f1 ∧ t.f1 ≤ 9223372036854775807 := by
      intro i hi
      have h1 := hel i hi
      rw [List.getElem?_eq_getElem (by omega), Option.bind_eq_some_iff] at h1
      obtain ⟨cs, hc, ht⟩ := h1
      rw [sz_token] at hc
      obtain ⟨t, rfl, w1, w2⟩ := token_cells ht
      exact ⟨t, hc, w1, w2⟩
    have hmax : len ≤ 9223372036854775807 := by
      have : maxLen ≤ 9223372036854775807 := by decide
      omega
    -- the tokens, one after another
    have build : ∀ k, k ≤ len → ∃ l : List S40, l.length = k ∧ ∀ i t, l[i]? = some t → w.cells? base (a.add (i * 3)) 3 = some [.int .i64 t.f0, .int .i64 t.f1, .string t.f2] ∧ -9223372036854775808 ≤ t.f1 ∧ t.f1 ≤ 9223372036854775807 := by
      intro k
      induction k with
      | zero => intro _; exact ⟨[], rfl, fun i t h => by simp at h⟩
      | succ k ih =>
        intro hk
        obtain ⟨l, h1, h2⟩ := ih (by omega)
        obtain ⟨t, h3⟩ := each k (by omega)
        refine ⟨l ++ [t], by simp [h1], fun i u hu => ?_⟩
        rcases Nat.lt_or_ge i l.length with g | g
        · rw [List.getElem?_append_left g] at hu
          exact h2 i u hu
        · rw [List.getElem?_append_right g] at hu
          have hi : i - l.length = 0 := by
            rcases Nat.eq_zero_or_pos (i - l.length) with g2 | g2
            · exact g2
            · rw [List.getElem?_eq_none (by simp only [List.length_singleton]; omega)] at hu
              cases hu
          rw [hi] at hu
          have e : t = u := by simpa using hu
          rw [← e, show i = k by omega]
          exact h3
    obtain ⟨l, h1, h2⟩ := build len (Nat.le_refl _)
    refine ⟨l, h1, hl, ⟨rfl, by omega, fun _ => ⟨a, rfl, fun j p hp => ?_⟩⟩, fun t ht => ?_⟩
    · obtain ⟨h3, _⟩ := h2 j p hp
      refine ⟨_, rfl, k40_mk w p, fun i u hu => ?_⟩
      have hi : i < 3 := by
        have := (List.getElem?_eq_some_iff.1 hu).1
        simpa using this
      obtain ⟨_, _, hq⟩ := World.cells?_some h3
      have h4 := hq i hi
      rw [hu] at h4
      rw [← h4]
      show w.cell? (a.add (j * 3 + i)) = w.cell? ((a.add (j * 3)).add i)
      rw [Addr.add_add]
    · obtain ⟨i, hi⟩ := List.getElem?_of_mem ht
      exact (h2 i t hi).2
end
end Go.Proofs.YtmcebojboffdoaaGreatDoor.P
namespace Go.Proofs.YtmcebojboffdoaaGreatDoor.P
set_option linter.unusedVariables false
set_option linter.unusedSimpArgs false
open Go.RowKit Go.Proofs.YtmcebojboffdoaaGreatDoorW.PrintWords Go.Proofs.YtmcebojboffdoaaGreatDoorW.PrintLast Go.Proofs.YtmcebojboffdoaaGreatDoorW.PrintMore
theorem rdT_at (l : List S40) (i : Nat) (h : i < l.length) : rd_T40 l (i : Int) = l[i] := by
  unfold rd_T40
  rw [Int.toNat_natCast, List.getD_eq_getElem?_getD, List.getElem?_eq_getElem h]
  rfl
/-! ### one token -/
def fitP (t : S40) : Prop := ∃ c r, bl t.f2 = c :: r ∧ blank c = false ∧ nextL (c :: r) = (t.f0, c :: r, 0)
theorem Tk.acc {l : List UInt8} {line : Nat} {acc : List S40} {res : List S40 × Int × Int} (h : Tk l line acc res) : res.2.2 = 0 → ∃ m, res.1 = acc ++ m := by
  induction h with
  | done => intro _; exact ⟨[], by simp⟩
  | err _ _ he => intro h; exact absurd h he
  | tok _ _ _ _ ih =>
    intro h
    obtain ⟨m, hm⟩ := ih h
    exact ⟨_, by rw [hm, List.append_assoc]⟩
/-- What a token and the tokens of its text have to do with each other. -/
def isOne (res : List S40 × Int × Int) (t : S40) : Prop := res.2.2 = 0 ∧ res.1.length = 1 ∧ (rd_T40 res.1 0).f0 = t.f0 ∧ (rd_T40 res.1 0).f2 = t.f2
theorem one_iff (t : S40) (res : List S40 × Int × Int) (hl : t.f2.size ≤ 2048) (h : Tk (bl t.f2) 1 [] res) : isOne res t ↔ fitP t := by
  constructor
  · rintro ⟨h1, h2, h3, h4⟩
    generalize hb : bl t.f2 = l at h
    cases h with
    | done => cases h2
    | err _ _ he => exact absurd h1 he
    | @tok _ n m _ _ c r _ hS hd he hT =>
      obtain ⟨more, hm⟩ := hT.acc h1
      rw [List.nil_append] at hm
      have e0 : rd_T40 res.1 0 = ⟨(nextL (c :: r)).1, ((1 + m : Nat) : Int), mkb (nextL (c :: r)).2.1⟩ := by rw [hm]; rfl
      rw [e0] at h3 h4
      have htx : (nextL (c :: r)).2.1 = l := by rw [← hb, ← h4]
      obtain ⟨t1, t2⟩ := text_len c r he
      have hlen := congrArg List.length hd
      rw [List.length_drop, List.length_cons] at hlen
      rw [htx] at t2
      have hn : n = 0 := by omega
      subst hn
      rw [List.drop_zero] at hd
      refine ⟨c, r, hb.trans hd, hS.head (by rw [List.drop_zero]; exact hd), ?_⟩
      exact Prod.ext h3 (Prod.ext (htx.trans hd) he)
  · rintro ⟨c, r, h1, h2, h3⟩
    rw [h1] at h
    have e1 : (nextL (c :: r)).1 = t.f0 := by rw [h3]
    have e2 : (nextL (c :: r)).2.1 = c :: r := by rw [h3]
    have e3 : (nextL (c :: r)).2.2 = 0 := by rw [h3]
    have hT : Tk (c :: r) 1 [] ([] ++ [⟨(nextL (c :: r)).1, ((1 + 0 : Nat) : Int), mkb (nextL (c :: r)).2.1⟩], 0, 0) := by
      have hdr : (c :: r).drop (nextL (c :: r)).2.1.length = [] := by rw [e2]; exact List.drop_of_length_le (Nat.le_refl _)
      refine .tok (.stop h2) rfl e3 ?_
      rw [hdr]
      exact .done .nil rfl
    have hl2 : (c :: r).length ≤ 2048 := by rw [← h1, bl_len]; exact hl
    have e := Tk.uniq hl2 h hT
    have hf2 : mkb (c :: r) = t.f2 := by rw [← h1, mkb_bl]
    rw [e]
    exact ⟨rfl, rfl, e1, (congrArg mkb e2).trans hf2⟩
theorem valid_eq (t : S40) (hl : t.f2.size ≤ 2048) (k : Nat) (hk : 10000 ≤ k) : ∃ b, token_valid.f k t.f0 t.f1 t.f2 = some b ∧ (b = true ↔ fitP t) := by
  obtain ⟨res, hT⟩ := Tk.ex (bl t.f2).length (bl t.f2) 1 [] (Nat.le_refl _)
  rw [← one_iff t res hl hT]
  unfold token_valid.f
  rw [tokT_eq t.f2 hl hT k hk]
  simp only [Option.bind_some]
  unfold isOne
  by_cases h1 : res.2.2 = 0
  · rw [if_pos h1]
    by_cases h2 : res.1.length = 1
    · rw [if_pos (by omega), if_pos (by omega)]
      by_cases h3 : (rd_T40 res.1 0).f0 = t.f0
      · rw [if_pos h3]
        refine ⟨_, rfl, ?_⟩
        rw [beq_iff_eq, toList_iff]
        exact ⟨fun h => ⟨h1, h2, h3, h⟩, fun h => h.2.2.2⟩
      · rw [if_neg h3]
        exact ⟨false, rfl, fun h => Bool.noConfusion h, fun h => absurd h.2.2.1 h3⟩
    · rw [if_neg (by omega)]
      exact ⟨false, rfl, fun h => Bool.noConfusion h, fun h => absurd h.2.1 h2⟩
  · rw [if_neg h1]
    exact ⟨false, rfl, fun h => Bool.noConfusion h, fun h => absurd h.1 h1⟩
/-! ### lists -/
def okL : Int → List S40 → Prop
  | _, [] => True
  | x, t :: l => fitP t ∧ x ≤ t.f1 ∧ okL t.f1 l
def lastL : Int → List S40 → Int
  | x, [] => x
  | _, t :: l => lastL t.f1 l
theorem okL_last : ∀ (l : List S40) (x : Int), okL x l → x ≤ lastL x l
  | [], x, _ => Int.le_refl _
  | t :: l, x, h => Int.le_trans h.2.1 (okL_last l t.f1 h.2.2)
def gapL (first : Bool) (g : Nat) : List UInt8 := List.replicate g 10 ++ (if first = false ∧ g = 0 then [32] else [])
def joinT (first : Bool) (x : Int) : List S40 → List UInt8
  | [] => []
  | t :: l => gapL first (t.f1 - x).toNat ++ bl t.f2 ++ joinT false t.f1 l
open Classical in
/-- What both functions return. -/
noncomputable def joinR (l : List S40) : ByteArray × Int := if okL 1 l then (if (joinT true 1 l).length ≤ 2048 then (mkb (joinT true 1 l), 0) else ((⟨#[]⟩ : ByteArray), 5)) else ((⟨#[]⟩ : ByteArray), 1)
def small (l : List S40) : Prop := l.length ≤ 100000 ∧ ∀ t ∈ l, t.f2.size ≤ 2048 ∧ -9223372036854775808 ≤ t.f1 ∧ t.f1 ≤ 9223372036854775807
theorem join_l0 (l : List S40) (hs : small l) : ∀ (d k i : Nat) (x : Int), i ≤ l.length → l.length - i = d → d + 20000 < k →
    (okL x (l.drop i) → ∃ k', k' + d + 1 = k ∧ token_Join.l0 k l x (i : Int) = token_Join.l1 k' l 1 [] 0) ∧ (¬ okL x (l.drop i) → token_Join.l0 k l x (i : Int) = some ((⟨#[]⟩ : ByteArray), 1)) := by
  have hlen := hs.1
  intro d
  induction d with
  | zero =>
    intro k i x hi hd hk
    obtain ⟨k, rfl⟩ : ∃ m, k = m + 1 := ⟨k - 1, by omega⟩
    rw [List.drop_of_length_le (by omega)]
    simp only [token_Join.l0]
    rw [if_neg (by omega)]
    exact ⟨fun _ => ⟨k, rfl, rfl⟩, fun h => absurd trivial h⟩
  | succ d ih =>
    intro k i x hi hd hk
    obtain ⟨k, rfl⟩ : ∃ m, k = m + 1 := ⟨k - 1, by omega⟩
    have hlt : i < l.length := by omega
    have ht := hs.2 l[i] (List.getElem_mem hlt)
    obtain ⟨b, hb, hbi⟩ := valid_eq l[i] ht.1 k (by omega)
    have ih' := ih k (i + 1) l[i].f1 (by omega) (by omega) (by omega)
    rw [List.drop_eq_getElem_cons hlt]
    simp only [token_Join.l0]
    rw [if_pos (by omega), if_pos (by omega), rdT_at _ _ hlt, hb, wsucc' (by omega)]
    simp only [Option.bind_some]
    by_cases h1 : fitP l[i]
    · rw [if_pos (hbi.2 h1)]
      by_cases h2 : x ≤ l[i].f1
      · rw [if_neg (by omega)]
        refine ⟨fun h => ?_, fun h => ih'.2 fun g => h ⟨h1, h2, g⟩⟩
        obtain ⟨k', e1, e2⟩ := ih'.1 h.2.2
        exact ⟨k', by omega, e2⟩
      · rw [if_pos (by omega)]
        exact ⟨fun h => absurd h.2.1 h2, fun _ => rfl⟩
    · rw [if_neg (fun g => h1 (hbi.1 g))]
      exact ⟨fun h => absurd h.1 h1, fun _ => rfl⟩
theorem gap_eq (g : Int) (i : Nat) (h0 : 0 ≤ g) : gapOf g (i : Int) = gapL (i == 0) g.toNat := by
  unfold gapOf gapL
  congr 1
  by_cases hi : i = 0
  · subst hi
    rw [if_neg (by omega), if_neg (by rintro ⟨h, _⟩; exact absurd h (by decide))]
  · have e : (i == 0) = false := beq_eq_false_iff_ne.2 hi
    rw [e]
    by_cases hg : g = 0
    · subst hg
      rw [if_pos ⟨by omega, rfl⟩, if_pos ⟨rfl, rfl⟩]
    · rw [if_neg (by rintro ⟨_, h⟩; exact hg h), if_neg (by rintro ⟨_, h⟩; omega)]
theorem gapL_len (f : Bool) (g : Nat) : g ≤ (gapL f g).length ∧ (gapL f g).length ≤ g + 1 := by
  unfold gapL
  rw [List.length_append, List.length_replicate]
  split <;> simp
theorem join_l1 (l : List S40) (hs : small l) : ∀ (d k i : Nat) (x : Int) (b : List UInt8), i ≤ l.length → l.length - i = d → d < k → 1 ≤ x → x ≤ 9223372036854775807 → okL x (l.drop i) → b.length ≤ 2048 →
    token_Join.l1 k l x b (i : Int) = some (if (b ++ joinT (i == 0) x (l.drop i)).length ≤ 2048 then (mkb (b ++ joinT (i == 0) x (l.drop i)), 0) else ((⟨#[]⟩ : ByteArray), 5)) := by
  have hlen := hs.1
  intro d
  induction d with
  | zero =>
    intro k i x b hi hd hk _ _ _ hb
    obtain ⟨k, rfl⟩ : ∃ m, k = m + 1 := ⟨k - 1, by omega⟩
    rw [List.drop_of_length_le (by omega)]
    simp only [token_Join.l1]
    rw [if_neg (by omega)]
    unfold joinT
    rw [List.append_nil, if_pos hb]
  | succ d ih =>
    intro k i x b hi hd hk hx0 hx1 hok hb
    obtain ⟨k, rfl⟩ : ∃ m, k = m + 1 := ⟨k - 1, by omega⟩
    have hlt : i < l.length := by omega
    have ht := hs.2 l[i] (List.getElem_mem hlt)
    rw [List.drop_eq_getElem_cons hlt] at hok ⊢
    obtain ⟨h1, h2, h3⟩ := hok
    have hw : wrap64 (l[i].f1 - x) = l[i].f1 - x := wrap_in (by omega) (by omega)
    have hge : 0 ≤ l[i].f1 - x := by omega
    have hi1 : ((i + 1) == 0) = false := rfl
    have hgl := gapL_len (i == 0) (l[i].f1 - x).toNat
    have ih' := ih k (i + 1) l[i].f1 (b ++ gapL (i == 0) (l[i].f1 - x).toNat ++ bl l[i].f2) (by omega) (by omega) (by omega) (by omega) ht.2.2 h3
    rw [hi1] at ih'
    simp only [token_Join.l1]
    rw [if_pos (by omega), if_pos (by omega), rdT_at _ _ hlt, hw, gap_eq _ i hge, wsucc' (by omega)]
    have eT : b ++ joinT (i == 0) x (l[i] :: l.drop (i + 1)) = (b ++ gapL (i == 0) (l[i].f1 - x).toNat ++ bl l[i].f2) ++ joinT false l[i].f1 (l.drop (i + 1)) := by
      show b ++ (gapL (i == 0) (l[i].f1 - x).toNat ++ bl l[i].f2 ++ joinT false l[i].f1 (l.drop (i + 1))) = _
      simp only [List.append_assoc]
    rw [eT]
    have hbl : (b ++ gapL (i == 0) (l[i].f1 - x).toNat ++ bl l[i].f2).length = b.length + (gapL (i == 0) (l[i].f1 - x).toNat).length + l[i].f2.size := by
      rw [List.length_append, List.length_append, bl_len]
    have hTl : ((b ++ gapL (i == 0) (l[i].f1 - x).toNat ++ bl l[i].f2) ++ joinT false l[i].f1 (l.drop (i + 1))).length = (b ++ gapL (i == 0) (l[i].f1 - x).toNat ++ bl l[i].f2).length + (joinT false l[i].f1 (l.drop (i + 1))).length := List.length_append
    show (if l[i].f1 - x > 2048 then some ((⟨#[]⟩ : ByteArray), (5 : Int)) else if 0 ≤ l[i].f1 - x then (if l[i].f2.size ≤ 140737488000000 then (if ((b ++ gapL (i == 0) (l[i].f1 - x).toNat ++ bl l[i].f2).length : Int) > 2048 then some ((⟨#[]⟩ : ByteArray), (5 : Int)) else token_Join.l1 k l l[i].f1 (b ++ gapL (i == 0) (l[i].f1 - x).toNat ++ bl l[i].f2) ((i + 1 : Nat) : Int)) else none) else none) = _
    generalize b ++ gapL (i == 0) (l[i].f1 - x).toNat ++ bl l[i].f2 = b2 at *
    generalize joinT false l[i].f1 (l.drop (i + 1)) = J at *
    by_cases hg : l[i].f1 - x > 2048
    · rw [if_pos hg, if_neg (by omega)]
    · rw [if_neg hg, if_pos hge, if_pos (by omega)]
      by_cases hl : b2.length ≤ 2048
      · rw [if_neg (by omega), ih' hl]
      · rw [if_pos (by omega), if_neg (by omega)]
/-- The program's text of a list. -/
theorem join_eq (l : List S40) (hs : small l) (k : Nat) (hk : 2 * l.length + 30000 ≤ k) : token_Join.f k l = some (joinR l) := by
  have h0 := join_l0 l hs l.length k 0 1 (by omega) (by omega) (by omega)
  rw [List.drop_zero] at h0
  unfold token_Join.f joinR
  by_cases hok : okL 1 l
  · obtain ⟨k', e1, e2⟩ := h0.1 hok
    have h1 := join_l1 l hs l.length k' 0 1 [] (by omega) (by omega) (by omega) (by omega) (by omega) (by rw [List.drop_zero]; exact hok) (by simp)
    rw [List.drop_zero] at h1
    rw [if_pos hok]
    exact e2.trans h1
  · rw [if_neg hok]
    exact h0.2 hok
end Go.Proofs.YtmcebojboffdoaaGreatDoor.P
namespace Go.Proofs.YtmcebojboffdoaaGreatDoor.P
set_option linter.unusedVariables false
set_option linter.unusedSimpArgs false
open Go.RowKit Go.Proofs.YtmcebojboffdoaaGreatDoorW.PrintWords Go.Proofs.YtmcebojboffdoaaGreatDoorW.PrintLast Go.Proofs.YtmcebojboffdoaaGreatDoorW.PrintMore
/-! ### short lists -/
theorem short_l0 (l : List S40) (hl : l.length ≤ 300) : ∀ (d k i : Nat), i ≤ l.length → l.length - i = d → d < k → ∃ b, corebanklaw09_short.l0 k l (i : Int) = some b ∧ (b = true → ∀ t ∈ l.drop i, t.f2.size ≤ 100) := by
  intro d
  induction d with
  | zero =>
    intro k i hi hd hk
    obtain ⟨k, rfl⟩ : ∃ m, k = m + 1 := ⟨k - 1, by omega⟩
    simp only [corebanklaw09_short.l0]
    rw [if_neg (by omega), List.drop_of_length_le (by omega)]
    exact ⟨true, rfl, fun _ t ht => absurd ht List.not_mem_nil⟩
  | succ d ih =>
    intro k i hi hd hk
    obtain ⟨k, rfl⟩ : ∃ m, k = m + 1 := ⟨k - 1, by omega⟩
    have hlt : i < l.length := by omega
    simp only [corebanklaw09_short.l0]
    rw [if_pos (by omega), if_pos (by omega), rdT_at _ _ hlt, wsucc' (by omega), List.drop_eq_getElem_cons hlt]
    by_cases h : l[i].f2.size > 100
    · rw [if_pos (by omega)]
      exact ⟨false, rfl, fun h => Bool.noConfusion h⟩
    · rw [if_neg (by omega)]
      obtain ⟨b, e, hb⟩ := ih k (i + 1) (by omega) (by omega) (by omega)
      refine ⟨b, e, fun hbt t ht => ?_⟩
      rcases List.mem_cons.1 ht with g | g
      · rw [g]; omega
      · exact hb hbt t g
theorem short_eq (l : List S40) (k : Nat) (hk : 400 ≤ k) : ∃ b, corebanklaw09_short.f k l = some b ∧ (b = true → l.length ≤ 300 ∧ ∀ t ∈ l, t.f2.size ≤ 100) := by
  unfold corebanklaw09_short.f
  by_cases h : l.length > 300
  · rw [if_pos (by omega)]
    exact ⟨false, rfl, fun h => Bool.noConfusion h⟩
  · rw [if_neg (by omega)]
    obtain ⟨b, e, hb⟩ := short_l0 l (by omega) l.length k 0 (by omega) (by omega) (by omega)
    rw [List.drop_zero] at hb
    exact ⟨b, e, fun h => ⟨by omega, hb h⟩⟩
end Go.Proofs.YtmcebojboffdoaaGreatDoor.P
namespace Go.Proofs.YtmcebojboffdoaaGreatDoor.P
set_option linter.unusedVariables false
set_option linter.unusedSimpArgs false
open Go.RowKit Go.Proofs.YtmcebojboffdoaaGreatDoorW.PrintWords Go.Proofs.YtmcebojboffdoaaGreatDoorW.PrintLast Go.Proofs.YtmcebojboffdoaaGreatDoorW.PrintMore
theorem fits_eq (t : S40) (hl : t.f2.size ≤ 2048) (k : Nat) (hk : 20000 ≤ k) : ∃ b, corebankref09_fits.f k t.f0 t.f1 t.f2 = some b ∧ (b = true ↔ fitP t) := by
  obtain ⟨res, hT⟩ := Tk.ex (bl t.f2).length (bl t.f2) 1 [] (Nat.le_refl _)
  rw [← one_iff t res hl hT]
  unfold corebankref09_fits.f
  rw [refT_eq t.f2 hl hT k hk]
  simp only [Option.bind_some]
  unfold isOne
  by_cases h1 : res.2.2 = 0
  · rw [if_pos h1]
    by_cases h2 : res.1.length = 1
    · rw [if_pos (by omega), if_pos (by omega)]
      by_cases h3 : (rd_T40 res.1 0).f0 = t.f0
      · rw [if_pos h3]
        refine ⟨_, rfl, ?_⟩
        rw [beq_iff_eq, toList_iff]
        exact ⟨fun h => ⟨h1, h2, h3, h⟩, fun h => h.2.2.2⟩
      · rw [if_neg h3]
        exact ⟨false, rfl, fun h => Bool.noConfusion h, fun h => absurd h.2.2.1 h3⟩
    · rw [if_neg (by omega)]
      exact ⟨false, rfl, fun h => Bool.noConfusion h, fun h => absurd h.2.1 h2⟩
  · rw [if_neg h1]
    exact ⟨false, rfl, fun h => Bool.noConfusion h, fun h => absurd h.1 h1⟩
theorem refj_l0 (l : List S40) (hs : small l) : ∀ (d k i : Nat) (x : Int), i ≤ l.length → l.length - i = d → d + 30000 < k →
    (okL x (l.drop i) → ∃ k', k' + d + 1 = k ∧ corebankref09_Join.l0 k l x (i : Int) = if (wrap64 (lastL x (l.drop i) - 1)) > 2048 then (some ((⟨#[]⟩ : ByteArray), 5)) else corebankref09_Join.l1 k' l 1 (⟨#[]⟩ : ByteArray) 0) ∧ (¬ okL x (l.drop i) → corebankref09_Join.l0 k l x (i : Int) = some ((⟨#[]⟩ : ByteArray), 1)) := by
  have hlen := hs.1
  intro d
  induction d with
  | zero =>
    intro k i x hi hd hk
    obtain ⟨k, rfl⟩ : ∃ m, k = m + 1 := ⟨k - 1, by omega⟩
    rw [List.drop_of_length_le (by omega)]
    simp only [corebankref09_Join.l0]
    rw [if_neg (by omega)]
    exact ⟨fun _ => ⟨k, rfl, rfl⟩, fun h => absurd trivial h⟩
  | succ d ih =>
    intro k i x hi hd hk
    obtain ⟨k, rfl⟩ : ∃ m, k = m + 1 := ⟨k - 1, by omega⟩
    have hlt : i < l.length := by omega
    have ht := hs.2 l[i] (List.getElem_mem hlt)
    obtain ⟨b, hb, hbi⟩ := fits_eq l[i] ht.1 k (by omega)
    have ih' := ih k (i + 1) l[i].f1 (by omega) (by omega) (by omega)
    rw [List.drop_eq_getElem_cons hlt]
    simp only [corebankref09_Join.l0]
    rw [if_pos (by omega), if_pos (by omega), rdT_at _ _ hlt, hb, wsucc' (by omega)]
    simp only [Option.bind_some]
    by_cases h1 : fitP l[i]
    · rw [if_pos (hbi.2 h1)]
      by_cases h2 : x ≤ l[i].f1
      · rw [if_neg (by omega)]
        refine ⟨fun h => ?_, fun h => ih'.2 fun g => h ⟨h1, h2, g⟩⟩
        obtain ⟨k', e1, e2⟩ := ih'.1 h.2.2
        exact ⟨k', by omega, e2⟩
      · rw [if_pos (by omega)]
        exact ⟨fun h => absurd h.2.1 h2, fun _ => rfl⟩
    · rw [if_neg (fun g => h1 (hbi.1 g))]
      exact ⟨fun h => absurd h.1 h1, fun _ => rfl⟩
/-- Line feeds up to a token's line, and its text. -/
theorem refj_l2 (l : List S40) (i : Nat) (hlt : i < l.length) (hli : l.length ≤ 100000) (hsz : l[i].f2.size ≤ 2048) (hf : l[i].f1 ≤ 9223372036854775807) : ∀ (g k : Nat) (x : Int) (b : List UInt8), 1 ≤ x → l[i].f1 - x = g → b.length + g ≤ 1000000 →
    corebankref09_Join.l2 (k + g + 1) l x (mkb b) (i : Int) = if (((b ++ List.replicate g 10 ++ bl l[i].f2).length : Nat) : Int) > 2048 then some ((⟨#[]⟩ : ByteArray), 5) else corebankref09_Join.l1 k l l[i].f1 (mkb (b ++ List.replicate g 10 ++ bl l[i].f2)) ((i + 1 : Nat) : Int) := by
  intro g
  induction g with
  | zero =>
    intro k x b hx hg hb
    have hxe : x = l[i].f1 := by omega
    have happ : mkb b ++ l[i].f2 = mkb (b ++ List.replicate 0 10 ++ bl l[i].f2) := bl_inj (by rw [bl_app, bl_mkb, bl_mkb, List.replicate_zero, List.append_nil])
    simp only [corebankref09_Join.l2]
    rw [if_pos (by omega), if_pos (by omega), rdT_at _ _ hlt, if_neg (by omega), if_pos (by rw [mkb_size]; omega), wsucc' (by omega), happ, mkb_size, hxe]
  | succ g ih =>
    intro k x b hx hg hb
    have ih' := ih k (x + 1) (b ++ [10]) (by omega) (by omega) (by rw [List.length_append, List.length_singleton]; omega)
    have happ : mkb b ++ (⟨#[10]⟩ : ByteArray) = mkb (b ++ [10]) := bl_inj (by rw [bl_app])
    have hrep : b ++ [10] ++ List.replicate g 10 = b ++ List.replicate (g + 1) 10 := by rw [List.append_assoc, List.singleton_append, ← List.replicate_succ]
    rw [hrep] at ih'
    rw [← ih', show k + (g + 1) + 1 = (k + g + 1) + 1 by omega]
    generalize k + g + 1 = q
    rw [show corebankref09_Join.l2 (q + 1) l x (mkb b) (i : Int) = (if 0 ≤ (i : Int) then (if (i : Int) < (l.length : Int) then (if x < ((rd_T40 l (i : Int)).f1) then (if (mkb b).size + 1 ≤ 9223372036854775807 then (corebankref09_Join.l2 q l (wrap64 (x + 1)) (mkb b ++ (⟨#[10]⟩ : ByteArray)) (i : Int)) else (none)) else (if (mkb b).size + ((rd_T40 l (i : Int)).f2).size ≤ 9223372036854775807 then (if ((mkb b ++ ((rd_T40 l (i : Int)).f2)).size : Int) > 2048 then (some ((⟨#[]⟩ : ByteArray), 5)) else (corebankref09_Join.l1 q l x (mkb b ++ ((rd_T40 l (i : Int)).f2)) (wrap64 ((i : Int) + 1)))) else (none))) else (none)) else (none)) from rfl]
    rw [if_pos (by omega), if_pos (by omega), rdT_at _ _ hlt, if_pos (by omega), if_pos (by rw [mkb_size]; omega), wrap_in (by omega) (by omega), happ]
theorem rounds_left (d k g : Nat) (h : 3000 * (d + 1) + 3000 < k + g + 1 + 1 + 1 + 1) (hg : g ≤ 2048) : 3000 * d + 3000 < k := by omega
theorem refj_l1 (l : List S40) (hs : small l) : ∀ (d k i : Nat) (x : Int) (b : List UInt8), i ≤ l.length → l.length - i = d → 3000 * d + 3000 < k → 1 ≤ x → x ≤ 9223372036854775807 → okL x (l.drop i) → lastL x (l.drop i) ≤ 2049 → b.length ≤ 2048 →
    corebankref09_Join.l1 k l x (mkb b) (i : Int) = some (if (b ++ joinT (i == 0) x (l.drop i)).length ≤ 2048 then (mkb (b ++ joinT (i == 0) x (l.drop i)), 0) else ((⟨#[]⟩ : ByteArray), 5)) := by
  have hlen := hs.1
  intro d
  induction d with
  | zero =>
    intro k i x b hi hd hk _ _ _ _ hb
    obtain ⟨k, rfl⟩ : ∃ m, k = m + 1 := ⟨k - 1, by omega⟩
    rw [List.drop_of_length_le (by omega)]
    simp only [corebankref09_Join.l1]
    rw [if_neg (by omega)]
    unfold joinT
    rw [List.append_nil, if_pos hb]
  | succ d ih =>
    intro k i x b hi hd hk hx0 hx1 hok hla hb
    have hlt : i < l.length := by omega
    have ht := hs.2 l[i] (List.getElem_mem hlt)
    rw [List.drop_eq_getElem_cons hlt] at hok hla ⊢
    obtain ⟨h1, h2, h3⟩ := hok
    have hla2 : lastL l[i].f1 (l.drop (i + 1)) ≤ 2049 := hla
    have hfl := okL_last _ _ h3
    obtain ⟨g, hg⟩ : ∃ g : Nat, l[i].f1 - x = g := ⟨(l[i].f1 - x).toNat, by omega⟩
    have hg2 : (l[i].f1 - x).toNat = g := by omega
    have hgs : g ≤ 2048 := by omega
    obtain ⟨k, rfl⟩ : ∃ m, k = (m + g + 1) + 1 + 1 + 1 := ⟨k - g - 4, by omega⟩
    have hk2 : 3000 * d + 3000 < k := by
      exact rounds_left d k g hk hgs
    have hi1 : ((i + 1) == 0) = false := rfl
    have hgl := gapL_len (i == 0) g
    -- the text so far, with the gap
    have key : ∀ b1 : List UInt8, b1.length ≤ 2049 → b1 ++ List.replicate g 10 = b ++ gapL (i == 0) g → corebankref09_Join.j3 (k + g + 1 + 1) l x (mkb b1) (i : Int) = some (if (b ++ joinT (i == 0) x (l[i] :: l.drop (i + 1))).length ≤ 2048 then (mkb (b ++ joinT (i == 0) x (l[i] :: l.drop (i + 1))), 0) else ((⟨#[]⟩ : ByteArray), 5)) := by
      intro b1 hb1 he
      have ih' := ih k (i + 1) l[i].f1 (b1 ++ List.replicate g 10 ++ bl l[i].f2) (by omega) (by omega) hk2 (by omega) ht.2.2 h3 hla2
      rw [hi1] at ih'
      have eT : b ++ joinT (i == 0) x (l[i] :: l.drop (i + 1)) = (b1 ++ List.replicate g 10 ++ bl l[i].f2) ++ joinT false l[i].f1 (l.drop (i + 1)) := by
        show b ++ (gapL (i == 0) (l[i].f1 - x).toNat ++ bl l[i].f2 ++ joinT false l[i].f1 (l.drop (i + 1))) = _
        rw [hg2, he]
        simp only [List.append_assoc]
      have hTl : ((b1 ++ List.replicate g 10 ++ bl l[i].f2) ++ joinT false l[i].f1 (l.drop (i + 1))).length = (b1 ++ List.replicate g 10 ++ bl l[i].f2).length + (joinT false l[i].f1 (l.drop (i + 1))).length := List.length_append
      have h2' := refj_l2 l i hlt hlen ht.1 ht.2.2 g k x b1 hx0 hg (by omega)
      rw [eT]
      rw [show corebankref09_Join.j3 (k + g + 1 + 1) l x (mkb b1) (i : Int) = corebankref09_Join.l2 (k + g + 1) l x (mkb b1) (i : Int) from rfl, h2']
      generalize b1 ++ List.replicate g 10 ++ bl l[i].f2 = b2 at *
      generalize joinT false l[i].f1 (l.drop (i + 1)) = J at *
      by_cases hl : b2.length ≤ 2048
      · rw [if_neg (by omega), ih' hl]
      · rw [if_pos (by omega), if_neg (by omega)]
    have hj2 : ∀ v : Bool, corebankref09_Join.j2 (k + g + 1 + 1 + 1) l x (mkb b) (i : Int) v = if v = true then corebankref09_Join.j3 (k + g + 1 + 1) l x (mkb (b ++ [32])) (i : Int) else corebankref09_Join.j3 (k + g + 1 + 1) l x (mkb b) (i : Int) := by
      intro v
      have happ : mkb b ++ (⟨#[32]⟩ : ByteArray) = mkb (b ++ [32]) := bl_inj (by rw [bl_app])
      rw [show corebankref09_Join.j2 (k + g + 1 + 1 + 1) l x (mkb b) (i : Int) v = (if v = true then (if (mkb b).size + 1 ≤ 9223372036854775807 then (corebankref09_Join.j3 (k + g + 1 + 1) l x (mkb b ++ (⟨#[32]⟩ : ByteArray)) (i : Int)) else (none)) else (corebankref09_Join.j3 (k + g + 1 + 1) l x (mkb b) (i : Int))) from rfl, if_pos (show (mkb b).size + 1 ≤ 9223372036854775807 by rw [mkb_size]; omega), happ]
    rw [show corebankref09_Join.l1 (k + g + 1 + 1 + 1 + 1) l x (mkb b) (i : Int) = (if (i : Int) < (l.length : Int) then (if (i : Int) > 0 then (if 0 ≤ (i : Int) then (corebankref09_Join.j2 (k + g + 1 + 1 + 1) l x (mkb b) (i : Int) (((rd_T40 l (i : Int)).f1) == x)) else (none)) else (corebankref09_Join.j2 (k + g + 1 + 1 + 1) l x (mkb b) (i : Int) false)) else (some (mkb b, 0))) from rfl]
    rw [if_pos (by omega), rdT_at _ _ hlt, hj2, hj2, if_neg (show ¬ (false = true) by decide)]
    by_cases hi0 : i = 0
    · rw [if_neg (by omega)]
      refine key b (by omega) ?_
      unfold gapL
      rw [hi0, if_neg (by rintro ⟨h, _⟩; exact absurd h (by decide)), List.append_nil]
    · have e : (i == 0) = false := beq_eq_false_iff_ne.2 hi0
      rw [if_pos (by omega), if_pos (by omega)]
      by_cases hgz : g = 0
      · rw [if_pos (by rw [beq_iff_eq]; omega)]
        refine key (b ++ [32]) (by rw [List.length_append, List.length_singleton]; omega) ?_
        unfold gapL
        rw [e, hgz, if_pos ⟨rfl, rfl⟩, List.replicate_zero, List.append_nil, List.nil_append]
      · rw [if_neg (by rw [beq_iff_eq]; omega)]
        refine key b (by omega) ?_
        unfold gapL
        rw [if_neg (by rintro ⟨_, h⟩; exact hgz h), List.append_nil]
theorem joinT_len : ∀ (l : List S40) (f : Bool) (x : Int), okL x l → lastL x l - x ≤ ((joinT f x l).length : Int)
  | [], f, x, _ => by show x - x ≤ _; omega
  | t :: l, f, x, h => by
    have ih := joinT_len l false t.f1 h.2.2
    have h2 := h.2.1
    have hgl := gapL_len f (t.f1 - x).toNat
    show lastL t.f1 l - x ≤ (((gapL f (t.f1 - x).toNat ++ bl t.f2 ++ joinT false t.f1 l).length : Nat) : Int)
    rw [List.length_append, List.length_append]
    omega
theorem lastL_le : ∀ (l : List S40) (x : Int), x ≤ 9223372036854775807 → (∀ t ∈ l, t.f1 ≤ 9223372036854775807) → lastL x l ≤ 9223372036854775807
  | [], x, h, _ => h
  | t :: l, x, _, h => lastL_le l t.f1 (h t List.mem_cons_self) fun u hu => h u (List.mem_cons_of_mem _ hu)
/-- The reference's text of a list. -/
theorem refj_eq (l : List S40) (hs : small l) (k : Nat) (hk : 4000 * l.length + 40000 ≤ k) : corebankref09_Join.f k l = some (joinR l) := by
  have h0 := refj_l0 l hs l.length k 0 1 (by omega) (by omega) (by omega)
  rw [List.drop_zero] at h0
  unfold corebankref09_Join.f joinR
  by_cases hok : okL 1 l
  · obtain ⟨k', e1, e2⟩ := h0.1 hok
    have hla := okL_last l 1 hok
    have hla2 := lastL_le l 1 (by omega) fun t ht => (hs.2 t ht).2.2
    rw [if_pos hok]
    refine e2.trans ?_
    rw [wrap_in (by omega) (by omega)]
    by_cases hb : lastL 1 l - 1 > 2048
    · have hj := joinT_len l true 1 hok
      rw [if_pos hb, if_neg (by omega)]
    · have h1 := refj_l1 l hs l.length k' 0 1 [] (by omega) (by omega) (by omega) (by omega) (by omega) (by rw [List.drop_zero]; exact hok) (by rw [List.drop_zero]; omega) (by simp)
      rw [List.drop_zero] at h1
      rw [if_neg hb]
      exact h1
  · rw [if_neg hok]
    exact h0.2 hok
end Go.Proofs.YtmcebojboffdoaaGreatDoor.P
namespace Go.Proofs.YtmcebojboffdoaaGreatDoor.P
set_option linter.unusedVariables false
set_option linter.unusedSimpArgs false
open Go.RowKit Go.Proofs.YtmcebojboffdoaaGreatDoorW.PrintWords Go.Proofs.YtmcebojboffdoaaGreatDoorW.PrintLast Go.Proofs.YtmcebojboffdoaaGreatDoorW.PrintMore
theorem joins_at (l : List S40) (hl : ∀ t ∈ l, -9223372036854775808 ≤ t.f1 ∧ t.f1 ≤ 9223372036854775807) (k : Nat) (hk : 2000000 ≤ k) : corebanklaw09_TokenJoins.f k l = some true := by
  unfold corebanklaw09_TokenJoins.f
  obtain ⟨b, hb, h⟩ := short_eq l k (by omega)
  rw [hb]
  simp only [Option.bind_some]
  cases b with
  | false =>
    rw [if_neg (by decide), lives_at k (by omega)]
    rfl
  | true =>
    obtain ⟨h1, h2⟩ := h rfl
    have hs : small l := ⟨by omega, fun t ht => ⟨by have := h2 t ht; omega, hl t ht⟩⟩
    rw [if_pos rfl, join_eq l hs k (by omega), refj_eq l hs k (by omega), lives_at k (by omega)]
    simp only [Option.bind_some]
    rw [if_pos trivial, if_pos trivial]
/-- The law on joining is true. -/
theorem tokenJoins_true (l : List S40) (hl : ∀ t ∈ l, -9223372036854775808 ≤ t.f1 ∧ t.f1 ≤ 9223372036854775807) : ∃ k, corebanklaw09_TokenJoins.f k l = some true := by
  obtain ⟨k, hk⟩ : ∃ k, 2000000 ≤ k := ⟨2000000, Nat.le_refl _⟩
  exact ⟨k, joins_at l hl k hk⟩
end Go.Proofs.YtmcebojboffdoaaGreatDoor.P
namespace Go.Proofs.YtmcebojboffdoaaGreatDoor.P
open Go.RowKit Go.ChangeShapes Go.WideShapes Go.ChangeAt
open Go.ChangeMaps (open_string shut_string)
set_option linter.unusedVariables false
namespace LTokenJoins
theorem own : ownKnob Tryz.prog.godebug = none := by kernel_rfl
set_option maxRecDepth 100000 in
theorem lifted (os : Os) (started : os.Started) (H : Type) (enc : TypeId × Value → H) :
    ReturnsInHanded {} Tryz.checked os 5 .any (fun w args => (Rows.tokenJoinsSpec.pre enc Tryz.prog Tryz.f5 [] false w args ∧ laidMetH Tryz.prog laidL w) ∧ sizedMet enc Tryz.prog Tryz.f5 (OpenSpec.ofChange Rows.tokenJoinsSpec) false w args)
      (Rows.tokenJoinsSpec.post enc Tryz.prog Tryz.f5 false true false false) := by
  refine wrap (C := Tryz.checked) (X := fun w _ => laidMetH Tryz.prog laidL w) (fun _ _ _ hh h => h.of_heap hh) own started (by kernel_rfl) Tryz.func5
    (ChangeSpec.witness_shaped (enc := enc) (C := Tryz.checked) (os := os) (X := fun w _ => laidMetH Tryz.prog laidL w) false (World.laidAll Tryz.prog os laidL) #[.slice none 0 0] 8 (World.laidAll_os _ _ _)
      (laidL_zip os _) (by kernel_rfl) (by kernel_rfl) (by kernel_rfl) (laidL_met os _)) ?_
  intro W base args ds gs before hval0 hW _ hsz0 hL hS
  have hsz : (DataW.weightsEach Tryz.prog (Tryz.f5.params.toList ++ Rows.tokenJoinsSpec.plain.varTypes Tryz.prog) (ds ++ gs)).all (· ≤ reachBytes) = true := hsz0
  have hval : ∀ (j : Nat) t v, Tryz.f5.params[j]? = some t → args[j]? = some v → Value.okWide Tryz.prog W .any base t v := hval0
  have hG : Gl W := gl_of hL hS
  have hW' := hW
  obtain ⟨p, q, hA0, hV, rfl, _, _⟩ := hW
  have hA : DataW.TrodAll enc Tryz.prog W 0 (fun _ => true) true Tryz.f5.params.toList args.toList ds p := hA0
  rw [Tryz.params5] at hA hval hsz
  obtain ⟨v0, d0, rfl, rfl, h0⟩ := trodAll_one hA
  obtain ⟨rfl, rfl⟩ := trodVars_none hV
  obtain ⟨A, len, cap, rfl⟩ := okWide_slice Tryz.underlying26 (hval 0 26 v0 rfl rfl)
  have k0 := h0
  have lt0 : ∀ x ∈ p, x.block < W.heap.size := by obtain ⟨m, hm⟩ := k0; exact DataW.trod_lt m _ _ _ hm
  obtain ⟨l, hl, hcap, hC, hln⟩ := (let ⟨_, hf⟩ := h0; open_tokens hf)
  subst hl
  obtain ⟨k, hk⟩ := tokenJoins_true l hln
  simp only [List.append_nil] at hW'
  refine (corebanklaw09_TokenJoins.calls k A cap l true W hC hcap hG hk).mono fun e W' ⟨he, hb⟩ => ?_
  subst he
  exact ⟨_, rfl, _, _, _, [], _, [], hW', trodAll_mk1 (shut_bool Tryz.underlying4 _), trodAll_mk1 (Below.trod laidOut (by kernel_rfl) (of_decide_eq_true (by kernel_rfl)) k0 hb lt0), rfl, hb.frame _, fun h => by cases h⟩
theorem over : Rows.tokenJoinsRow.holds Tryz.pinned (OpenSpec.ofChange Rows.tokenJoinsSpec) :=
  OpenClaim.holds_of_wide 5 Tryz.f5 rfl rfl rfl rfl rfl rfl rfl ⟨rfl, rfl, rfl, rfl, rfl⟩ rfl rfl rfl rfl rfl (by kernel_rfl) Tryz.func5 (by kernel_rfl)
    (of_decide_eq_true (by kernel_rfl)) (by unfold Func.isWrapper; first | (rw [if_pos (by decide +kernel)]; kernel_rfl) | (rw [if_neg (by decide +kernel)]; exact ⟨rfl, rfl⟩))
    (fun os started H enc _ => lifted os started H enc)
theorem card : Rows.TokenJoinsCardSaid :=
  Claim7.holds_tied_plain_at .later [] [.data, .data, .data, .data, .sentinel, .sentinel, .listed, .data, .pinned] true (true, "d15288922e3957ccf88c2193be2082afd1fbc586afe57e80d4068688c23d23b6") true over (fun _ h => by cases h) (by kernel_rfl) (fun _ h => by cases h) tokenJoins_row_tie rfl ⟨rfl, rfl⟩ (by kernel_rfl) rfl
    (fun f fn hf hfn => by
      obtain rfl : f = 5 := Option.some.inj ((show Tryz.prog.funcNamed "corebank/corebanklaw09.TokenJoins" = some 5 by kernel_rfl).symm.trans hf) |>.symm
      obtain rfl : fn = Tryz.f5 := (Option.some.inj (Tryz.func5.symm.trans hfn)).symm
      exact ⟨by kernel_rfl, fun j t ht => by
        rw [Tryz.params5] at ht
        have hm : t ∈ [26] := by simpa using Array.mem_of_getElem? ht
        have hall : ([26].all fun u => !Tryz.prog.wantsStandIn u) = true := by kernel_rfl
        exact (show Tryz.prog.wantsStandIn t = false by simpa using List.all_eq_true.1 hall t hm)⟩)
    (by kernel_rfl)
end LTokenJoins
/-- The card, under a short name, for the claim. -/
theorem tokenJoins_card : Rows.TokenJoinsCardSaid := LTokenJoins.card
end Go.Proofs.YtmcebojboffdoaaGreatDoor.P
