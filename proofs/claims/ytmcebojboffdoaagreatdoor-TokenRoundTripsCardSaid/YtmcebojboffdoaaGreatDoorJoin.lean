/-
  token.Join. Conditions: what the library's variables hold ('Gl').
-/
import Derived.Test.YtmcebojboffdoaaGreatDoorP11
import Derived.Test.YtmcebojboffdoaaGreatDoorBld
namespace Go.Proofs.YtmcebojboffdoaaGreatDoor.P
set_option linter.unusedVariables false
set_option linter.unusedSimpArgs false
open Go.RowKit Go.Proofs.YtmcebojboffdoaaGreatDoorW.PrintWords Go.Proofs.YtmcebojboffdoaaGreatDoorW.PrintLast Go.Proofs.YtmcebojboffdoaaGreatDoorW.PrintMore
/-- What is written ahead of a token: line feeds, or a space. -/
def gapOf (g i : Int) : List UInt8 := List.replicate g.toNat 10 ++ (if i > 0 ∧ g = 0 then [32] else [])
def token_Join.l1 : Nat → List S40 → Int → List UInt8 → Int → Option (ByteArray × Int)
  | 0, _, _, _, _ => none
  | k + 1, x0, x4, b, x5 => if x5 < (x0.length : Int) then (if 0 ≤ x5 then (if wrap64 ((rd_T40 x0 x5).f1 - x4) > 2048 then some (⟨#[]⟩, 5) else (if 0 ≤ wrap64 ((rd_T40 x0 x5).f1 - x4) then (if (rd_T40 x0 x5).f2.size ≤ 140737488000000 then (if ((b ++ gapOf (wrap64 ((rd_T40 x0 x5).f1 - x4)) x5 ++ (rd_T40 x0 x5).f2.data.toList).length : Int) > 2048 then some (⟨#[]⟩, 5) else token_Join.l1 k x0 (rd_T40 x0 x5).f1 (b ++ gapOf (wrap64 ((rd_T40 x0 x5).f1 - x4)) x5 ++ (rd_T40 x0 x5).f2.data.toList) (wrap64 (x5 + 1))) else none) else none)) else none) else some (⟨b.toArray⟩, 0)
def token_Join.l0 : Nat → List S40 → Int → Int → Option (ByteArray × Int)
  | 0, _, _, _ => none
  | k + 1, x0, x4, x5 => if x5 < (x0.length : Int) then (if 0 ≤ x5 then ((token_valid.f k (rd_T40 x0 x5).f0 (rd_T40 x0 x5).f1 (rd_T40 x0 x5).f2).bind fun t => (if t = true then (if (rd_T40 x0 x5).f1 < x4 then some (⟨#[]⟩, 1) else token_Join.l0 k x0 (rd_T40 x0 x5).f1 (wrap64 (x5 + 1))) else some (⟨#[]⟩, 1))) else none) else token_Join.l1 k x0 1 [] 0
def token_Join.f (k : Nat) (l0 : List S40) : Option (ByteArray × Int) := token_Join.l0 k l0 1 0
theorem token_Join.mono_l1 : ∀ k y0 y1 y2 y3, LeO (token_Join.l1 k y0 y1 y2 y3) (token_Join.l1 (k + 1) y0 y1 y2 y3)
  | 0, _, _, _, _ => fun r h => by simp [token_Join.l1] at h
  | k + 1, y0, y1, y2, y3 => by
    have ih := token_Join.mono_l1 k
    unfold token_Join.l1
    repeat' first
      | (with_reducible exact ih _ _ _ _)
      | (with_reducible exact LeO.refl _)
      | (with_reducible refine LeO.ite ?_ ?_)
      | exact ih _ _ _ _
      | exact LeO.refl _
      | refine LeO.ite ?_ ?_
theorem token_Join.mono_l0 : ∀ k y0 y1 y2, LeO (token_Join.l0 k y0 y1 y2) (token_Join.l0 (k + 1) y0 y1 y2)
  | 0, _, _, _ => fun r h => by simp [token_Join.l0] at h
  | k + 1, y0, y1, y2 => by
    have ih := token_Join.mono_l0 k
    have ih1 := token_Join.mono_l1 k
    unfold token_Join.l0
    repeat' first
      | (with_reducible exact ih _ _ _)
      | (with_reducible exact ih1 _ _ _ _)
      | (with_reducible exact token_valid.mono _ _ _ _)
      | (with_reducible exact LeO.refl _)
      | (with_reducible refine LeO.ite ?_ ?_)
      | (with_reducible refine LeO.bind ?_ (fun _ => ?_))
      | exact ih _ _ _
      | exact ih1 _ _ _ _
      | exact token_valid.mono _ _ _ _
      | exact LeO.refl _
      | refine LeO.ite ?_ ?_
      | refine LeO.bind ?_ (fun _ => ?_)
theorem token_Join.mono : ∀ a0 k, LeO (token_Join.f k a0) (token_Join.f (k + 1) a0) := fun a0 k => token_Join.mono_l0 k a0 1 0
theorem bld_lt {T e : TypeId} {B b : Nat} {bs : List Value} {w : World} (h : Lib.IsBuilder T e B b bs w) : b < w.heap.size := by
  rcases h with h | h
  · exact h.lt
  · exact h.lt
theorem repeatL_one (g : Nat) : Lib.repeatL [10] g = List.replicate g 10 := by
  induction g with
  | zero => rfl
  | succ g ih => simp [Lib.repeatL, ih, List.replicate_succ]
theorem rep_size (g : Nat) : (⟨(Lib.repeatL (⟨#[10]⟩ : ByteArray).data.toList g).toArray⟩ : ByteArray).size = g := by
  show (Lib.repeatL [10] g).toArray.size = g
  rw [repeatL_one]; simp
theorem byteCells_str (a : List UInt8) (s : ByteArray) : Lib.byteCells (a ++ s.data.toList) = Lib.byteCells a ++ Lib.strCells s := by simp [Lib.byteCells, Lib.strCells]
theorem byteCells_rep (a : List UInt8) (g : Nat) : Lib.byteCells (a ++ List.replicate g 10) = Lib.byteCells a ++ Lib.strCells ⟨(Lib.repeatL (⟨#[10]⟩ : ByteArray).data.toList g).toArray⟩ := by
  rw [← byteCells_str]
  show _ = Lib.byteCells (a ++ (Lib.repeatL [10] g).toArray.toList)
  rw [repeatL_one]
theorem byteCells_one (a : List UInt8) : Lib.byteCells (a ++ [32]) = Lib.byteCells a ++ [.int .u8 32] := by simp [Lib.byteCells]
set_option maxHeartbeats 8000000 in
set_option maxRecDepth 100000 in
theorem token_Join.calls (k : Nat) (A0 : Option Addr) (c0 : Nat) (l0 : List S40) (r1 : ByteArray) (r2 : Int) (w : World) (hr0 : Kd.C k40 w A0 l0.length l0) (hc0 : l0.length ≤ c0) (hG : Gl w) (h : token_Join.f k l0 = some (r1, r2)) :
    Calls Tryz.prog 18 #[.slice A0 l0.length c0] w fun e w' => e = .returned (.tuple #[.string r1, .int .i64 r2]) ∧ Below w.heap.size w w' := by
  have hu40 := Tryz.underlying40
  have HG := Aside0.mk hG
  clear hG
  have HB := Aside0.mk (Below.refl w.heap.size w)
  have HR0 := Aside0.mk hr0
  have HC0 := Aside0.mk hc0
  clear hr0 hc0
  have H' := Aside0.mk (show token_Join.l0 k l0 1 0 = some (r1, r2) from h)
  clear h
  go_enter Tryz.func18, Tryz.ntmps18
  go_wp2
  go_loopg [4, 13] k (fun kq v4 v13 w' => ∃ (x4_1 : Int) (x13_1 : Int), v4 = .int .i64 x4_1 ∧ v13 = .int .i64 x13_1 ∧ Aside0 (token_Join.l0 kq l0 x4_1 x13_1 = some (r1, r2)) ∧ Aside0 (kq ≤ k) ∧ Aside0 (Below w.heap.size w w'))
  case atStart => exact ⟨1, 0, rfl, rfl, H', ⟨Nat.le_refl _⟩, HB⟩
  case round =>
    clear H' HB
    obtain ⟨x4_1, x5_1, rfl, rfl, HA, HK1, HB⟩ := hrel
    cases gk with
    | zero => exact absurd HA.out (by simp [token_Join.l0])
    | succ k1 =>
      have H := HA.out
      clear HA
      simp only [token_Join.l0] at H
      by_cases c4 : x5_1 < (l0.length : Int)
      · rw [if_pos c4] at H
        have c4b0 : decide (x5_1 < (l0.length : Int)) = true := decide_eq_true c4
        by_cases c5 : 0 ≤ x5_1
        · rw [if_pos c5] at H
          obtain ⟨t, Ht0, H⟩ := Option.bind_eq_some_iff.mp H
          have Ht := Aside0.mk Ht0
          clear Ht0
          have HRn := Aside0.mk (Kd.C_below HR0.out HB.out)
          obtain ⟨ad, e0, hx_0, hx_1, hx_2⟩ := at_T40 HRn.out x5_1 c5 c4
          cases e0
          have H' := Aside0.mk H
          clear H
          replace c5 := eq_true c5
          replace c4 := eq_true c4
          have HBn := Aside0.mk (below_alloc HB.out (.cells #[.int .i64 (rd_T40 l0 x5_1).f0, .int .i64 (rd_T40 l0 x5_1).f1, .string (rd_T40 l0 x5_1).f2] 40))
          have BK0 := Aside0.mk (blk_new wr (.cells #[.int .i64 (rd_T40 l0 x5_1).f0, .int .i64 (rd_T40 l0 x5_1).f1, .string (rd_T40 l0 x5_1).f2] 40))
          cases t with
          | false =>
            have H := H'.out
            rw [if_neg (show ¬ (false = true) by decide)] at H
            simp only [Option.some.injEq, Prod.mk.injEq] at H
            obtain ⟨rfl, rfl⟩ := H
            clear H'
            go_wp2_with (go_at_call 30; refine (token_valid.calls k1 _ _ _ false _ (Gl.step HG.out HBn.out) Ht.out).mono ?_; rintro e w1 ⟨rfl, hb⟩; have HB1 := Aside0.mk (below_step HBn.out hb); clear hb)
            go_ret2
            exact ⟨rfl, HB1.out⟩
          | true =>
            have H := H'.out
            rw [if_pos rfl] at H
            clear H'
            by_cases c6 : (rd_T40 l0 x5_1).f1 < x4_1
            · rw [if_pos c6] at H
              simp only [Option.some.injEq, Prod.mk.injEq] at H
              obtain ⟨rfl, rfl⟩ := H
              have c6b : decide ((rd_T40 l0 x5_1).f1 < x4_1) = true := decide_eq_true c6
              clear c6
              go_wp2_with (go_at_call 30; refine (token_valid.calls k1 _ _ _ true _ (Gl.step HG.out HBn.out) Ht.out).mono ?_; rintro e w1 ⟨rfl, hb⟩; have BK1 := blk_below BK0.out hb; have hc1 : w1.cell? ⟨wr.heap.size, 1, none⟩ = some (.int .i64 (rd_T40 l0 x5_1).f1) := (blk_cell BK1 1).trans rfl; have HB1 := Aside0.mk (below_step HBn.out hb); clear hb BK1)
              go_ret2
              exact ⟨rfl, HB1.out⟩
            · rw [if_neg c6] at H
              have H' := Aside0.mk H
              clear H
              have c6b : decide ((rd_T40 l0 x5_1).f1 < x4_1) = false := decide_eq_false c6
              clear c6
              go_wp2_with (go_at_call 30; refine (token_valid.calls k1 _ _ _ true _ (Gl.step HG.out HBn.out) Ht.out).mono ?_; rintro e w1 ⟨rfl, hb⟩; have BK1 := blk_below BK0.out hb; have hc1 : w1.cell? ⟨wr.heap.size, 1, none⟩ = some (.int .i64 (rd_T40 l0 x5_1).f1) := (blk_cell BK1 1).trans rfl; have HB1 := Aside0.mk (below_step HBn.out hb); clear hb BK1)
              go_roundg k1
              case measure => have := HK1.out; omega
              case rel => exact ⟨(rd_T40 l0 x5_1).f1, wrap64 (x5_1 + 1), by first | rfl | (simp; done) | (simp [*]; done), by first | rfl | (simp; done) | (simp [*]; done), H', ⟨by have := HK1.out; omega⟩, HB1⟩
        · rw [if_neg c5] at H
          exact absurd H (by simp)
      · rw [if_neg c4] at H
        have c4b0 : decide (x5_1 < (l0.length : Int)) = false := decide_eq_false c4
        clear c4
        have H' := Aside0.mk H
        clear H
        obtain ⟨wo, rfl⟩ : ∃ wo : World, wo = wr := ⟨_, rfl⟩
        have HBL := Aside0.mk (bld_fresh (T := 51) (e := 5) wo HB.out.size)
        have HBo := Aside0.mk (below_alloc HB.out (.cells #[.pointer none, .slice none 0 0] 51))
        have HS := Aside0.mk HB.out.size
        clear HB
        go_wp2
        go_loopg [4, 31] k1 (fun kq v4 v31 w' => ∃ (x4_2 i : Int) (bs : List UInt8), v4 = .int .i64 x4_2 ∧ v31 = .int .i64 i ∧ Aside0 (token_Join.l1 kq l0 x4_2 bs i = some (r1, r2)) ∧ Aside0 (kq ≤ k1) ∧ Aside0 (Lib.IsBuilder 51 5 w.heap.size wo.heap.size (Lib.byteCells bs) w') ∧ Aside0 (bs.length ≤ 2048) ∧ Aside0 (Below w.heap.size w w'))
        case atStart => exact ⟨1, 0, [], rfl, rfl, H', ⟨Nat.le_refl _⟩, HBL, ⟨by simp⟩, HBo⟩
        case round =>
          clear H' HBL HBo
          obtain ⟨x4_2, i, bs, rfl, rfl, HA, HK2, HBL, HLE, HB⟩ := hrel
          cases gk with
          | zero => exact absurd HA.out (by simp [token_Join.l1])
          | succ k2 =>
            have H := HA.out
            clear HA
            simp only [token_Join.l1] at H
            by_cases d4 : i < (l0.length : Int)
            · rw [if_pos d4] at H
              have d4b0 : decide (i < (l0.length : Int)) = true := decide_eq_true d4
              by_cases d5 : 0 ≤ i
              · rw [if_pos d5] at H
                have HRn := Aside0.mk (Kd.C_below HR0.out HB.out)
                obtain ⟨ad, e0, hx_0, hx_1, hx_2⟩ := at_T40 HRn.out i d5 d4
                cases e0
                replace d5 := eq_true d5
                replace d4 := eq_true d4
                by_cases d6 : wrap64 ((rd_T40 l0 i).f1 - x4_2) > 2048
                · rw [if_pos d6] at H
                  simp only [Option.some.injEq, Prod.mk.injEq] at H
                  obtain ⟨rfl, rfl⟩ := H
                  have d6b : decide (2048 < wrap64 ((rd_T40 l0 i).f1 - x4_2)) = true := decide_eq_true d6
                  clear d6
                  go_wp2
                  go_ret2
                  exact ⟨rfl, below_alloc HB.out _⟩
                · rw [if_neg d6] at H
                  have d6b : decide (2048 < wrap64 ((rd_T40 l0 i).f1 - x4_2)) = false := decide_eq_false d6
                  by_cases d7 : 0 ≤ wrap64 ((rd_T40 l0 i).f1 - x4_2)
                  · rw [if_pos d7] at H
                    by_cases d8 : (rd_T40 l0 i).f2.size ≤ 140737488000000
                    · rw [if_pos d8] at H
                      obtain ⟨g, hg⟩ : ∃ g : Nat, wrap64 ((rd_T40 l0 i).f1 - x4_2) = (g : Int) := ⟨_, (Int.toNat_of_nonneg d7).symm⟩
                      have hg2 : g ≤ 2048 := by omega
                      have HH := Aside0.mk H
                      clear H d7 d6 d6b
                      have d6b : decide (2048 < (g : Int)) = false := decide_eq_false (by omega)
                      have HG2 := Aside0.mk hg2
                      have HD8 := Aside0.mk d8
                      clear hg2 d8
                      have HNE := Aside0.mk (show wr.heap.size ≠ wo.heap.size from fun e_ => by have := bld_lt HBL.out; omega)
                      go_wp2_with fail
                      refine (Tryz.strings_Repeat ⟨#[10]⟩ g _ (by have := HG2.out; omega) (by have := HG2.out; show 1 * g ≤ _; omega)).mono ?_
                      rintro e w1 ⟨rfl, hb⟩
                      have HB1 := Aside0.mk (below_step (below_alloc HB.out (.cells #[.int .i64 (rd_T40 l0 i).f0, .int .i64 (rd_T40 l0 i).f1, .string (rd_T40 l0 i).f2] 40)) hb)
                      have HBL1 := Aside0.mk (bld_below (bld_below HBL.out (below_alloc (Below.refl _ _) (.cells #[.int .i64 (rd_T40 l0 i).f0, .int .i64 (rd_T40 l0 i).f1, .string (rd_T40 l0 i).f2] 40))) hb)
                      have BK1 := Aside0.mk (blk_below (blk_new wr (.cells #[.int .i64 (rd_T40 l0 i).f0, .int .i64 (rd_T40 l0 i).f1, .string (rd_T40 l0 i).f2] 40)) hb)
                      have HZ1 := Aside0.mk HB1.out.size
                      clear hb HB HBL
                      go_wp2_with fail
                      refine (writeString w.heap.size wo.heap.size (Lib.byteCells bs) _ _ HBL1.out (by rw [Lib.byteCells_length, rep_size]; have := HG2.out; have := HLE.out; omega) HZ1.out).mono ?_
                      rintro e w2 ⟨rfl, hbd, hb, hk⟩
                      have BK2 := Aside0.mk (hk _ _ BK1.out (fun e_ => HNE.out (Option.some.inj e_)) (by intro c fz e_; cases e_))
                      have HB2 := Aside0.mk (HB1.out.trans hb)
                      have HBL2 := Aside0.mk (show Lib.IsBuilder 51 5 w.heap.size wo.heap.size (Lib.byteCells (bs ++ List.replicate g 10)) w2 from .inr (by rw [byteCells_rep]; exact hbd))
                      have HZ2 := Aside0.mk HB2.out.size
                      clear hbd hb hk BK1 HB1 HBL1 HZ1
                      have hc2_1 : w2.cell? ⟨wr.heap.size, 1, none⟩ = some (.int .i64 (rd_T40 l0 i).f1) := (blk_cell BK2.out 1).trans rfl
                      have hc2_2 : w2.cell? ⟨wr.heap.size, 2, none⟩ = some (.string (rd_T40 l0 i).f2) := (blk_cell BK2.out 2).trans rfl
                      by_cases d9 : i > 0 ∧ g = 0
                      · have d9a : decide (0 < i) = true := decide_eq_true d9.1
                        obtain ⟨d9c, rfl⟩ := d9
                        clear d9c
                        go_wp2_with fail
                        refine (writeByte w.heap.size wo.heap.size (Lib.byteCells (bs ++ List.replicate 0 10)) 32 _ HBL2.out (by rw [Lib.byteCells_length]; have := HLE.out; simp; omega) HZ2.out).mono ?_
                        rintro e w3 ⟨rfl, hbd, hb, hk⟩
                        have BK3 := Aside0.mk (hk _ _ BK2.out (fun e_ => HNE.out (Option.some.inj e_)) (by intro c fz e_; cases e_))
                        have HB3 := Aside0.mk (HB2.out.trans hb)
                        have HBL3 := Aside0.mk (show Lib.IsBuilder 51 5 w.heap.size wo.heap.size (Lib.byteCells (bs ++ List.replicate 0 10 ++ [32])) w3 from .inr (by rw [byteCells_one]; exact hbd))
                        have HZ3 := Aside0.mk HB3.out.size
                        clear hbd hb hk BK2 HB2 HBL2 HZ2
                        have hc3_1 : w3.cell? ⟨wr.heap.size, 1, none⟩ = some (.int .i64 (rd_T40 l0 i).f1) := (blk_cell BK3.out 1).trans rfl
                        have hc3_2 : w3.cell? ⟨wr.heap.size, 2, none⟩ = some (.string (rd_T40 l0 i).f2) := (blk_cell BK3.out 2).trans rfl
                        have HEQ := Aside0.mk (show bs ++ gapOf ((0 : Nat) : Int) i ++ (rd_T40 l0 i).f2.data.toList = bs ++ List.replicate 0 10 ++ [32] ++ (rd_T40 l0 i).f2.data.toList by simp [gapOf, show (0 : Int) < i from of_decide_eq_true d9a])
                        go_wp2_with fail
                        refine (writeString w.heap.size wo.heap.size (Lib.byteCells (bs ++ List.replicate 0 10 ++ [32])) _ _ HBL3.out (by rw [Lib.byteCells_length]; have := HG2.out; have := HLE.out; have := HD8.out; simp; omega) HZ3.out).mono ?_
                        rintro e w4 ⟨rfl, hbd, hb, hk⟩
                        have BK4 := Aside0.mk (hk _ _ BK3.out (fun e_ => HNE.out (Option.some.inj e_)) (by intro c fz e_; cases e_))
                        have HB4 := Aside0.mk (HB3.out.trans hb)
                        have HBL4 := Aside0.mk (show Lib.IsBuilder 51 5 w.heap.size wo.heap.size (Lib.byteCells (bs ++ List.replicate 0 10 ++ [32] ++ (rd_T40 l0 i).f2.data.toList)) w4 from .inr (by rw [byteCells_str]; exact hbd))
                        have HZ4 := Aside0.mk HB4.out.size
                        clear hbd hb hk BK3 HB3 HBL3 HZ3
                        have hc4_1 : w4.cell? ⟨wr.heap.size, 1, none⟩ = some (.int .i64 (rd_T40 l0 i).f1) := (blk_cell BK4.out 1).trans rfl
                        have hc4_2 : w4.cell? ⟨wr.heap.size, 2, none⟩ = some (.string (rd_T40 l0 i).f2) := (blk_cell BK4.out 2).trans rfl
                        have H := HH.out
                        rw [hg] at H
                        rw [HEQ.out] at H
                        clear HH
                        by_cases d10 : ((bs ++ List.replicate 0 10 ++ [32] ++ (rd_T40 l0 i).f2.data.toList).length : Int) > 2048
                        · rw [if_pos d10] at H
                          simp only [Option.some.injEq, Prod.mk.injEq] at H
                          obtain ⟨rfl, rfl⟩ := H
                          have HD10 := Aside0.mk d10
                          clear d10
                          go_wp2_with fail
                          refine (Tryz.Builder_Len w.heap.size wo.heap.size _ _ HBL4.out).mono ?_
                          rw [Lib.byteCells_length]
                          rintro e w' ⟨rfl, rfl⟩
                          have d10b := decide_eq_true HD10.out
                          generalize (bs ++ List.replicate 0 10 ++ [32] ++ (rd_T40 l0 i).f2.data.toList).length = nn at *
                          go_wp2
                          go_ret2
                          exact ⟨rfl, HB4.out⟩
                        · rw [if_neg d10] at H
                          have H' := Aside0.mk H
                          have HD10 := Aside0.mk d10
                          clear H d10
                          have HLE2 := Aside0.mk (show (bs ++ List.replicate 0 10 ++ [32] ++ (rd_T40 l0 i).f2.data.toList).length ≤ 2048 by have := HD10.out; omega)
                          go_wp2_with fail
                          refine (Tryz.Builder_Len w.heap.size wo.heap.size _ _ HBL4.out).mono ?_
                          rw [Lib.byteCells_length]
                          rintro e w' ⟨rfl, rfl⟩
                          have d10b : decide (2048 < ((bs ++ List.replicate 0 10 ++ [32] ++ (rd_T40 l0 i).f2.data.toList).length : Int)) = false := decide_eq_false (by have := HD10.out; omega)
                          generalize (bs ++ List.replicate 0 10 ++ [32] ++ (rd_T40 l0 i).f2.data.toList).length = nn at d10b ⊢
                          go_wp2
                          go_roundg k2
                          case measure => have := HK1.out; have := HK2.out; omega
                          case rel => exact ⟨(rd_T40 l0 i).f1, wrap64 (i + 1), bs ++ List.replicate 0 10 ++ [32] ++ (rd_T40 l0 i).f2.data.toList, by first | rfl | (simp; done) | (simp [*]; done), by first | rfl | (simp; done) | (simp [*]; done), H', ⟨by have := HK2.out; omega⟩, HBL4, HLE2, HB4⟩
                      · have d9n := d9
                        clear d9
                        have HQ := Aside0.mk d9n
                        clear d9n
                        by_cases d9a : i > 0
                        · have d9b : ¬ g = 0 := fun e_ => HQ.out ⟨d9a, e_⟩
                          have d9c : ((g : Int) == 0) = false := beq_eq_false_iff_ne.2 (by omega)
                          have d9d : decide (0 < i) = true := decide_eq_true d9a
                          have HEQ := Aside0.mk (show bs ++ gapOf (g : Int) i ++ (rd_T40 l0 i).f2.data.toList = bs ++ List.replicate g 10 ++ (rd_T40 l0 i).f2.data.toList by simp [gapOf, d9b])
                          go_wp2_with fail
                          refine (writeString w.heap.size wo.heap.size (Lib.byteCells (bs ++ List.replicate g 10)) _ _ HBL2.out (by rw [Lib.byteCells_length]; have := HG2.out; have := HLE.out; have := HD8.out; simp; omega) HZ2.out).mono ?_
                          rintro e w3 ⟨rfl, hbd, hb, hk⟩
                          have BK3 := Aside0.mk (hk _ _ BK2.out (fun e_ => HNE.out (Option.some.inj e_)) (by intro c fz e_; cases e_))
                          have HB3 := Aside0.mk (HB2.out.trans hb)
                          have HBL3 := Aside0.mk (show Lib.IsBuilder 51 5 w.heap.size wo.heap.size (Lib.byteCells (bs ++ List.replicate g 10 ++ (rd_T40 l0 i).f2.data.toList)) w3 from .inr (by rw [byteCells_str]; exact hbd))
                          have HZ3 := Aside0.mk HB3.out.size
                          clear hbd hb hk BK2 HB2 HBL2 HZ2
                          have hc3_1 : w3.cell? ⟨wr.heap.size, 1, none⟩ = some (.int .i64 (rd_T40 l0 i).f1) := (blk_cell BK3.out 1).trans rfl
                          have hc3_2 : w3.cell? ⟨wr.heap.size, 2, none⟩ = some (.string (rd_T40 l0 i).f2) := (blk_cell BK3.out 2).trans rfl
                          have H := HH.out
                          rw [hg] at H
                          rw [HEQ.out] at H
                          clear HH
                          by_cases d10 : ((bs ++ List.replicate g 10 ++ (rd_T40 l0 i).f2.data.toList).length : Int) > 2048
                          · rw [if_pos d10] at H
                            simp only [Option.some.injEq, Prod.mk.injEq] at H
                            obtain ⟨rfl, rfl⟩ := H
                            have HD10 := Aside0.mk d10
                            clear d10
                            go_wp2_with fail
                            refine (Tryz.Builder_Len w.heap.size wo.heap.size _ _ HBL3.out).mono ?_
                            rw [Lib.byteCells_length]
                            rintro e w' ⟨rfl, rfl⟩
                            have d10b := decide_eq_true HD10.out
                            generalize (bs ++ List.replicate g 10 ++ (rd_T40 l0 i).f2.data.toList).length = nn at *
                            go_wp2
                            go_ret2
                            exact ⟨rfl, HB3.out⟩
                          · rw [if_neg d10] at H
                            have H' := Aside0.mk H
                            have HD10 := Aside0.mk d10
                            clear H d10
                            have HLE2 := Aside0.mk (show (bs ++ List.replicate g 10 ++ (rd_T40 l0 i).f2.data.toList).length ≤ 2048 by have := HD10.out; omega)
                            go_wp2_with fail
                            refine (Tryz.Builder_Len w.heap.size wo.heap.size _ _ HBL3.out).mono ?_
                            rw [Lib.byteCells_length]
                            rintro e w' ⟨rfl, rfl⟩
                            have d10b : decide (2048 < ((bs ++ List.replicate g 10 ++ (rd_T40 l0 i).f2.data.toList).length : Int)) = false := decide_eq_false (by have := HD10.out; omega)
                            generalize (bs ++ List.replicate g 10 ++ (rd_T40 l0 i).f2.data.toList).length = nn at d10b ⊢
                            go_wp2
                            go_roundg k2
                            case measure => have := HK1.out; have := HK2.out; omega
                            case rel => exact ⟨(rd_T40 l0 i).f1, wrap64 (i + 1), bs ++ List.replicate g 10 ++ (rd_T40 l0 i).f2.data.toList, by first | rfl | (simp; done) | (simp [*]; done), by first | rfl | (simp; done) | (simp [*]; done), H', ⟨by have := HK2.out; omega⟩, HBL3, HLE2, HB3⟩
                        · have d9d : decide (0 < i) = false := decide_eq_false d9a
                          have HEQ := Aside0.mk (show bs ++ gapOf (g : Int) i ++ (rd_T40 l0 i).f2.data.toList = bs ++ List.replicate g 10 ++ (rd_T40 l0 i).f2.data.toList by simp [gapOf, d9a])
                          go_wp2_with fail
                          refine (writeString w.heap.size wo.heap.size (Lib.byteCells (bs ++ List.replicate g 10)) _ _ HBL2.out (by rw [Lib.byteCells_length]; have := HG2.out; have := HLE.out; have := HD8.out; simp; omega) HZ2.out).mono ?_
                          rintro e w3 ⟨rfl, hbd, hb, hk⟩
                          have BK3 := Aside0.mk (hk _ _ BK2.out (fun e_ => HNE.out (Option.some.inj e_)) (by intro c fz e_; cases e_))
                          have HB3 := Aside0.mk (HB2.out.trans hb)
                          have HBL3 := Aside0.mk (show Lib.IsBuilder 51 5 w.heap.size wo.heap.size (Lib.byteCells (bs ++ List.replicate g 10 ++ (rd_T40 l0 i).f2.data.toList)) w3 from .inr (by rw [byteCells_str]; exact hbd))
                          have HZ3 := Aside0.mk HB3.out.size
                          clear hbd hb hk BK2 HB2 HBL2 HZ2
                          have hc3_1 : w3.cell? ⟨wr.heap.size, 1, none⟩ = some (.int .i64 (rd_T40 l0 i).f1) := (blk_cell BK3.out 1).trans rfl
                          have hc3_2 : w3.cell? ⟨wr.heap.size, 2, none⟩ = some (.string (rd_T40 l0 i).f2) := (blk_cell BK3.out 2).trans rfl
                          have H := HH.out
                          rw [hg] at H
                          rw [HEQ.out] at H
                          clear HH
                          by_cases d10 : ((bs ++ List.replicate g 10 ++ (rd_T40 l0 i).f2.data.toList).length : Int) > 2048
                          · rw [if_pos d10] at H
                            simp only [Option.some.injEq, Prod.mk.injEq] at H
                            obtain ⟨rfl, rfl⟩ := H
                            have HD10 := Aside0.mk d10
                            clear d10
                            go_wp2_with fail
                            refine (Tryz.Builder_Len w.heap.size wo.heap.size _ _ HBL3.out).mono ?_
                            rw [Lib.byteCells_length]
                            rintro e w' ⟨rfl, rfl⟩
                            have d10b := decide_eq_true HD10.out
                            generalize (bs ++ List.replicate g 10 ++ (rd_T40 l0 i).f2.data.toList).length = nn at *
                            go_wp2
                            go_ret2
                            exact ⟨rfl, HB3.out⟩
                          · rw [if_neg d10] at H
                            have H' := Aside0.mk H
                            have HD10 := Aside0.mk d10
                            clear H d10
                            have HLE2 := Aside0.mk (show (bs ++ List.replicate g 10 ++ (rd_T40 l0 i).f2.data.toList).length ≤ 2048 by have := HD10.out; omega)
                            go_wp2_with fail
                            refine (Tryz.Builder_Len w.heap.size wo.heap.size _ _ HBL3.out).mono ?_
                            rw [Lib.byteCells_length]
                            rintro e w' ⟨rfl, rfl⟩
                            have d10b : decide (2048 < ((bs ++ List.replicate g 10 ++ (rd_T40 l0 i).f2.data.toList).length : Int)) = false := decide_eq_false (by have := HD10.out; omega)
                            generalize (bs ++ List.replicate g 10 ++ (rd_T40 l0 i).f2.data.toList).length = nn at d10b ⊢
                            go_wp2
                            go_roundg k2
                            case measure => have := HK1.out; have := HK2.out; omega
                            case rel => exact ⟨(rd_T40 l0 i).f1, wrap64 (i + 1), bs ++ List.replicate g 10 ++ (rd_T40 l0 i).f2.data.toList, by first | rfl | (simp; done) | (simp [*]; done), by first | rfl | (simp; done) | (simp [*]; done), H', ⟨by have := HK2.out; omega⟩, HBL3, HLE2, HB3⟩
                    · rw [if_neg d8] at H
                      exact absurd H (by simp)
                  · rw [if_neg d7] at H
                    exact absurd H (by simp)
              · rw [if_neg d5] at H
                exact absurd H (by simp)
            · rw [if_neg d4] at H
              have d4b0 : decide (i < (l0.length : Int)) = false := decide_eq_false d4
              clear d4
              simp only [Option.some.injEq, Prod.mk.injEq] at H
              obtain ⟨rfl, rfl⟩ := H
              have HSZ := Aside0.mk HB.out.size
              go_wp2_with (go_at_call 35; refine (Tryz.Builder_String_any w.heap.size wo.heap.size bs _ HBL.out HSZ.out).mono ?_; rintro e w1 ⟨rfl, hb⟩; have HB1 := Aside0.mk (HB.out.trans hb); clear hb)
              go_ret2
              exact ⟨rfl, HB1.out⟩
end Go.Proofs.YtmcebojboffdoaaGreatDoor.P
