/-
  Tokens that are the only one of their text; the text of a list of tokens. Conditions: texts of at most 2048 bytes, lines of 64 bits.
-/
import Derived.Test.YtmcebojboffdoaaGreatDoorQu
import Derived.Test.YtmcebojboffdoaaGreatDoorP11
import Derived.Test.YtmcebojboffdoaaGreatDoorJoin
namespace Go.Proofs.YtmcebojboffdoaaGreatDoor.P
set_option linter.unusedVariables false
set_option linter.unusedSimpArgs false
open Go.RowKit Go.Proofs.YtmcebojboffdoaaGreatDoorW.PrintWords Go.Proofs.YtmcebojboffdoaaGreatDoorW.PrintLast Go.Proofs.YtmcebojboffdoaaGreatDoorW.PrintMore
theorem rdT_at (l : List S40) (i : Nat) (h : i < l.length) : rd_T40 l (i : Int) = l[i] := by
  unfold rd_T40
  rw [Int.toNat_natCast, List.getD_eq_getElem?_getD, List.getElem?_eq_getElem h]
  rfl
/-! ### one token -/
def fitP (t : S40) : Prop := ∃ c r, bl t.f2 = c :: r ∧ blank c = false ∧ nextL (c :: r) = (t.f0, c :: r, 0)
theorem Tk.acc {l : List UInt8} {line : Nat} {acc : List S40} {res : List S40 × Int × Int} (h : Tk l line acc res) : res.2.2 = 0 → ∃ m, res.1 = acc ++ m := by
  induction h with
  | done => intro _; exact ⟨[], by simp⟩
  | err _ _ he => intro h; exact absurd h he
  | tok _ _ _ _ ih =>
    intro h
    obtain ⟨m, hm⟩ := ih h
    exact ⟨_, by rw [hm, List.append_assoc]⟩
/-- What a token and the tokens of its text have to do with each other. -/
def isOne (res : List S40 × Int × Int) (t : S40) : Prop := res.2.2 = 0 ∧ res.1.length = 1 ∧ (rd_T40 res.1 0).f0 = t.f0 ∧ (rd_T40 res.1 0).f2 = t.f2
theorem one_iff (t : S40) (res : List S40 × Int × Int) (hl : t.f2.size ≤ 2048) (h : Tk (bl t.f2) 1 [] res) : isOne res t ↔ fitP t := by
  constructor
  · rintro ⟨h1, h2, h3, h4⟩
    generalize hb : bl t.f2 = l at h
    cases h with
    | done => cases h2
    | err _ _ he => exact absurd h1 he
    | @tok _ n m _ _ c r _ hS hd he hT =>
      obtain ⟨more, hm⟩ := hT.acc h1
      rw [List.nil_append] at hm
      have e0 : rd_T40 res.1 0 = ⟨(nextL (c :: r)).1, ((1 + m : Nat) : Int), mkb (nextL (c :: r)).2.1⟩ := by rw [hm]; rfl
      rw [e0] at h3 h4
      have htx : (nextL (c :: r)).2.1 = l := by rw [← hb, ← h4]
      obtain ⟨t1, t2⟩ := text_len c r he
      have hlen := congrArg List.length hd
      rw [List.length_drop, List.length_cons] at hlen
      rw [htx] at t2
      have hn : n = 0 := by omega
      subst hn
      rw [List.drop_zero] at hd
      refine ⟨c, r, hb.trans hd, hS.head (by rw [List.drop_zero]; exact hd), ?_⟩
      exact Prod.ext h3 (Prod.ext (htx.trans hd) he)
  · rintro ⟨c, r, h1, h2, h3⟩
    rw [h1] at h
    have e1 : (nextL (c :: r)).1 = t.f0 := by rw [h3]
    have e2 : (nextL (c :: r)).2.1 = c :: r := by rw [h3]
    have e3 : (nextL (c :: r)).2.2 = 0 := by rw [h3]
    have hT : Tk (c :: r) 1 [] ([] ++ [⟨(nextL (c :: r)).1, ((1 + 0 : Nat) : Int), mkb (nextL (c :: r)).2.1⟩], 0, 0) := by
      have hdr : (c :: r).drop (nextL (c :: r)).2.1.length = [] := by rw [e2]; exact List.drop_of_length_le (Nat.le_refl _)
      refine .tok (.stop h2) rfl e3 ?_
      rw [hdr]
      exact .done .nil rfl
    have hl2 : (c :: r).length ≤ 2048 := by rw [← h1, bl_len]; exact hl
    have e := Tk.uniq hl2 h hT
    have hf2 : mkb (c :: r) = t.f2 := by rw [← h1, mkb_bl]
    rw [e]
    exact ⟨rfl, rfl, e1, (congrArg mkb e2).trans hf2⟩
theorem valid_eq (t : S40) (hl : t.f2.size ≤ 2048) (k : Nat) (hk : 10000 ≤ k) : ∃ b, token_valid.f k t.f0 t.f1 t.f2 = some b ∧ (b = true ↔ fitP t) := by
  obtain ⟨res, hT⟩ := Tk.ex (bl t.f2).length (bl t.f2) 1 [] (Nat.le_refl _)
  rw [← one_iff t res hl hT]
  unfold token_valid.f
  rw [tokT_eq t.f2 hl hT k hk]
  simp only [Option.bind_some]
  unfold isOne
  by_cases h1 : res.2.2 = 0
  · rw [if_pos h1]
    by_cases h2 : res.1.length = 1
    · rw [if_pos (by omega), if_pos (by omega)]
      by_cases h3 : (rd_T40 res.1 0).f0 = t.f0
      · rw [if_pos h3]
        refine ⟨_, rfl, ?_⟩
        rw [beq_iff_eq, toList_iff]
        exact ⟨fun h => ⟨h1, h2, h3, h⟩, fun h => h.2.2.2⟩
      · rw [if_neg h3]
        exact ⟨false, rfl, fun h => Bool.noConfusion h, fun h => absurd h.2.2.1 h3⟩
    · rw [if_neg (by omega)]
      exact ⟨false, rfl, fun h => Bool.noConfusion h, fun h => absurd h.2.1 h2⟩
  · rw [if_neg h1]
    exact ⟨false, rfl, fun h => Bool.noConfusion h, fun h => absurd h.1 h1⟩
/-! ### lists -/
def okL : Int → List S40 → Prop
  | _, [] => True
  | x, t :: l => fitP t ∧ x ≤ t.f1 ∧ okL t.f1 l
def lastL : Int → List S40 → Int
  | x, [] => x
  | _, t :: l => lastL t.f1 l
theorem okL_last : ∀ (l : List S40) (x : Int), okL x l → x ≤ lastL x l
  | [], x, _ => Int.le_refl _
  | t :: l, x, h => Int.le_trans h.2.1 (okL_last l t.f1 h.2.2)
def gapL (first : Bool) (g : Nat) : List UInt8 := List.replicate g 10 ++ (if first = false ∧ g = 0 then [32] else [])
def joinT (first : Bool) (x : Int) : List S40 → List UInt8
  | [] => []
  | t :: l => gapL first (t.f1 - x).toNat ++ bl t.f2 ++ joinT false t.f1 l
open Classical in
/-- What both functions return. -/
noncomputable def joinR (l : List S40) : ByteArray × Int := if okL 1 l then (if (joinT true 1 l).length ≤ 2048 then (mkb (joinT true 1 l), 0) else ((⟨#[]⟩ : ByteArray), 5)) else ((⟨#[]⟩ : ByteArray), 1)
def small (l : List S40) : Prop := l.length ≤ 100000 ∧ ∀ t ∈ l, t.f2.size ≤ 2048 ∧ -9223372036854775808 ≤ t.f1 ∧ t.f1 ≤ 9223372036854775807
theorem join_l0 (l : List S40) (hs : small l) : ∀ (d k i : Nat) (x : Int), i ≤ l.length → l.length - i = d → d + 20000 < k →
    (okL x (l.drop i) → ∃ k', k' + d + 1 = k ∧ token_Join.l0 k l x (i : Int) = token_Join.l1 k' l 1 [] 0) ∧ (¬ okL x (l.drop i) → token_Join.l0 k l x (i : Int) = some ((⟨#[]⟩ : ByteArray), 1)) := by
  have hlen := hs.1
  intro d
  induction d with
  | zero =>
    intro k i x hi hd hk
    obtain ⟨k, rfl⟩ : ∃ m, k = m + 1 := ⟨k - 1, by omega⟩
    rw [List.drop_of_length_le (by omega)]
    simp only [token_Join.l0]
    rw [if_neg (by omega)]
    exact ⟨fun _ => ⟨k, rfl, rfl⟩, fun h => absurd trivial h⟩
  | succ d ih =>
    intro k i x hi hd hk
    obtain ⟨k, rfl⟩ : ∃ m, k = m + 1 := ⟨k - 1, by omega⟩
    have hlt : i < l.length := by omega
    have ht := hs.2 l[i] (List.getElem_mem hlt)
    obtain ⟨b, hb, hbi⟩ := valid_eq l[i] ht.1 k (by omega)
    have ih' := ih k (i + 1) l[i].f1 (by omega) (by omega) (by omega)
    rw [List.drop_eq_getElem_cons hlt]
    simp only [token_Join.l0]
    rw [if_pos (by omega), if_pos (by omega), rdT_at _ _ hlt, hb, wsucc' (by omega)]
    simp only [Option.bind_some]
    by_cases h1 : fitP l[i]
    · rw [if_pos (hbi.2 h1)]
      by_cases h2 : x ≤ l[i].f1
      · rw [if_neg (by omega)]
        refine ⟨fun h => ?_, fun h => ih'.2 fun g => h ⟨h1, h2, g⟩⟩
        obtain ⟨k', e1, e2⟩ := ih'.1 h.2.2
        exact ⟨k', by omega, e2⟩
      · rw [if_pos (by omega)]
        exact ⟨fun h => absurd h.2.1 h2, fun _ => rfl⟩
    · rw [if_neg (fun g => h1 (hbi.1 g))]
      exact ⟨fun h => absurd h.1 h1, fun _ => rfl⟩
theorem gap_eq (g : Int) (i : Nat) (h0 : 0 ≤ g) : gapOf g (i : Int) = gapL (i == 0) g.toNat := by
  unfold gapOf gapL
  congr 1
  by_cases hi : i = 0
  · subst hi
    rw [if_neg (by omega), if_neg (by rintro ⟨h, _⟩; exact absurd h (by decide))]
  · have e : (i == 0) = false := beq_eq_false_iff_ne.2 hi
    rw [e]
    by_cases hg : g = 0
    · subst hg
      rw [if_pos ⟨by omega, rfl⟩, if_pos ⟨rfl, rfl⟩]
    · rw [if_neg (by rintro ⟨_, h⟩; exact hg h), if_neg (by rintro ⟨_, h⟩; omega)]
theorem gapL_len (f : Bool) (g : Nat) : g ≤ (gapL f g).length ∧ (gapL f g).length ≤ g + 1 := by
  unfold gapL
  rw [List.length_append, List.length_replicate]
  split <;> simp
theorem join_l1 (l : List S40) (hs : small l) : ∀ (d k i : Nat) (x : Int) (b : List UInt8), i ≤ l.length → l.length - i = d → d < k → 1 ≤ x → x ≤ 9223372036854775807 → okL x (l.drop i) → b.length ≤ 2048 →
    token_Join.l1 k l x b (i : Int) = some (if (b ++ joinT (i == 0) x (l.drop i)).length ≤ 2048 then (mkb (b ++ joinT (i == 0) x (l.drop i)), 0) else ((⟨#[]⟩ : ByteArray), 5)) := by
  have hlen := hs.1
  intro d
  induction d with
  | zero =>
    intro k i x b hi hd hk _ _ _ hb
    obtain ⟨k, rfl⟩ : ∃ m, k = m + 1 := ⟨k - 1, by omega⟩
    rw [List.drop_of_length_le (by omega)]
    simp only [token_Join.l1]
    rw [if_neg (by omega)]
    unfold joinT
    rw [List.append_nil, if_pos hb]
  | succ d ih =>
    intro k i x b hi hd hk hx0 hx1 hok hb
    obtain ⟨k, rfl⟩ : ∃ m, k = m + 1 := ⟨k - 1, by omega⟩
    have hlt : i < l.length := by omega
    have ht := hs.2 l[i] (List.getElem_mem hlt)
    rw [List.drop_eq_getElem_cons hlt] at hok ⊢
    obtain ⟨h1, h2, h3⟩ := hok
    have hw : wrap64 (l[i].f1 - x) = l[i].f1 - x := wrap_in (by omega) (by omega)
    have hge : 0 ≤ l[i].f1 - x := by omega
    have hi1 : ((i + 1) == 0) = false := rfl
    have hgl := gapL_len (i == 0) (l[i].f1 - x).toNat
    have ih' := ih k (i + 1) l[i].f1 (b ++ gapL (i == 0) (l[i].f1 - x).toNat ++ bl l[i].f2) (by omega) (by omega) (by omega) (by omega) ht.2.2 h3
    rw [hi1] at ih'
    simp only [token_Join.l1]
    rw [if_pos (by omega), if_pos (by omega), rdT_at _ _ hlt, hw, gap_eq _ i hge, wsucc' (by omega)]
    have eT : b ++ joinT (i == 0) x (l[i] :: l.drop (i + 1)) = (b ++ gapL (i == 0) (l[i].f1 - x).toNat ++ bl l[i].f2) ++ joinT false l[i].f1 (l.drop (i + 1)) := by
      show b ++ (gapL (i == 0) (l[i].f1 - x).toNat ++ bl l[i].f2 ++ joinT false l[i].f1 (l.drop (i + 1))) = _
      simp only [List.append_assoc]
    rw [eT]
    have hbl : (b ++ gapL (i == 0) (l[i].f1 - x).toNat ++ bl l[i].f2).length = b.length + (gapL (i == 0) (l[i].f1 - x).toNat).length + l[i].f2.size := by
      rw [List.length_append, List.length_append, bl_len]
    have hTl : ((b ++ gapL (i == 0) (l[i].f1 - x).toNat ++ bl l[i].f2) ++ joinT false l[i].f1 (l.drop (i + 1))).length = (b ++ gapL (i == 0) (l[i].f1 - x).toNat ++ bl l[i].f2).length + (joinT false l[i].f1 (l.drop (i + 1))).length := List.length_append
    show (if l[i].f1 - x > 2048 then some ((⟨#[]⟩ : ByteArray), (5 : Int)) else if 0 ≤ l[i].f1 - x then (if l[i].f2.size ≤ 140737488000000 then (if ((b ++ gapL (i == 0) (l[i].f1 - x).toNat ++ bl l[i].f2).length : Int) > 2048 then some ((⟨#[]⟩ : ByteArray), (5 : Int)) else token_Join.l1 k l l[i].f1 (b ++ gapL (i == 0) (l[i].f1 - x).toNat ++ bl l[i].f2) ((i + 1 : Nat) : Int)) else none) else none) = _
    generalize b ++ gapL (i == 0) (l[i].f1 - x).toNat ++ bl l[i].f2 = b2 at *
    generalize joinT false l[i].f1 (l.drop (i + 1)) = J at *
    by_cases hg : l[i].f1 - x > 2048
    · rw [if_pos hg, if_neg (by omega)]
    · rw [if_neg hg, if_pos hge, if_pos (by omega)]
      by_cases hl : b2.length ≤ 2048
      · rw [if_neg (by omega), ih' hl]
      · rw [if_pos (by omega), if_neg (by omega)]
/-- The program's text of a list. -/
theorem join_eq (l : List S40) (hs : small l) (k : Nat) (hk : 2 * l.length + 30000 ≤ k) : token_Join.f k l = some (joinR l) := by
  have h0 := join_l0 l hs l.length k 0 1 (by omega) (by omega) (by omega)
  rw [List.drop_zero] at h0
  unfold token_Join.f joinR
  by_cases hok : okL 1 l
  · obtain ⟨k', e1, e2⟩ := h0.1 hok
    have h1 := join_l1 l hs l.length k' 0 1 [] (by omega) (by omega) (by omega) (by omega) (by omega) (by rw [List.drop_zero]; exact hok) (by simp)
    rw [List.drop_zero] at h1
    rw [if_pos hok]
    exact e2.trans h1
  · rw [if_neg hok]
    exact h0.2 hok
end Go.Proofs.YtmcebojboffdoaaGreatDoor.P
