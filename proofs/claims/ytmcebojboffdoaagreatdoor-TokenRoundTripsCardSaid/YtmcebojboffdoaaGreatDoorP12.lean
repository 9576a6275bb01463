-- PRINTED by print.py (a twelfth state) out of the translation. Not trusted: Lean checks it.
import Derived.Test.YtmcebojboffdoaaGreatDoorP0
import Derived.Test.YtmcebojboffdoaaGreatDoorExt
import Derived.Test.YtmcebojboffdoaaGreatDoorGl
namespace Go.Proofs.YtmcebojboffdoaaGreatDoor.P
open Go.RowKit Go.Proofs.YtmcebojboffdoaaGreatDoorW.PrintWords Go.Proofs.YtmcebojboffdoaaGreatDoorW.PrintLast Go.Proofs.YtmcebojboffdoaaGreatDoorW.PrintMore
attribute [local go_sem] max2_int min2_int max_two min_two max_three min_three max_four min_four   -- for this text's walks alone
set_option linter.unusedVariables false
set_option linter.unusedSimpArgs false

/-! ### token_Percent: function 22 -/
def token_Percent.j0 : Nat → Int → Bool → Option (ByteArray × Int)
  | 0, _, _ => none
  | k + 1, x0, x11 => if x11 = true then (some ((⟨#[]⟩ : ByteArray), 1)) else ((strconv_Itoa.f (wrap64 (10000 + (Int.tmod x0 10000)))).bind fun t171 => (if 1 ≤ (t171.size : Int) then ((strings_TrimRight.f (t171.extract 1 t171.size) (⟨#[48]⟩ : ByteArray)).bind fun t173 => ((strconv_Itoa.f (wrap64 (Int.tdiv x0 10000))).bind fun t174 => (if t173.toList = ([] : List UInt8) then (if t174.size + 1 ≤ 9223372036854775807 then (some (t174 ++ (⟨#[37]⟩ : ByteArray), 0)) else (none)) else (if 1 + t173.size ≤ 9223372036854775807 then (if t174.size + 1 + t173.size ≤ 9223372036854775807 then (if t174.size + (1 + t173.size) + 1 ≤ 9223372036854775807 then (some ((t174 ++ ((⟨#[46]⟩ : ByteArray) ++ t173)) ++ (⟨#[37]⟩ : ByteArray), 0)) else (none)) else (none)) else (none))))) else (none)))
def token_Percent.f (k : Nat) (a0 : Int) : Option (ByteArray × Int) := if a0 < 0 then (token_Percent.j0 k a0 true) else (token_Percent.j0 k a0 (decide (a0 > 1000000)))
theorem token_Percent.mono_l : ∀ k, (∀ y0 y1, LeO (token_Percent.j0 k y0 y1) (token_Percent.j0 (k + 1) y0 y1))
  | 0 => fun _ _ r h => by simp [token_Percent.j0] at h
  | k + 1 => by
    have ih0 := token_Percent.mono_l k
    · intro y0 y1
      unfold token_Percent.j0
      repeat' first
      | (with_reducible exact ih0 _ _)
      | (with_reducible exact LeO.refl _)
      | (with_reducible exact LeO.none _)
      | (with_reducible refine LeO.ite ?_ ?_)
      | (with_reducible refine LeO.bind ?_ (fun _ => ?_))
      | exact ih0 _ _
      | exact LeO.none _
      | refine LeO.ite ?_ ?_
      | refine LeO.bind ?_ (fun _ => ?_)
theorem token_Percent.mono : ∀ a0 k, LeO (token_Percent.f k a0) (token_Percent.f (k + 1) a0) := by
  intro a0 k
  have ih0 := token_Percent.mono_l k
  unfold token_Percent.f
  repeat' first
      | (with_reducible exact ih0 _ _)
      | (with_reducible exact LeO.refl _)
      | (with_reducible exact LeO.none _)
      | (with_reducible refine LeO.ite ?_ ?_)
      | (with_reducible refine LeO.bind ?_ (fun _ => ?_))
      | exact ih0 _ _
      | exact LeO.none _
      | refine LeO.ite ?_ ?_
      | refine LeO.bind ?_ (fun _ => ?_)
set_option maxHeartbeats 8000000 in
set_option maxRecDepth 100000 in
theorem token_Percent.calls (k : Nat) (a0 : Int) (r1 : ByteArray) (r2 : Int) (w : World) (hG : Gl w) (h : token_Percent.f k a0 = some (r1, r2)) :
    Calls Tryz.prog 22 #[.int .i64 a0] w fun e w' => e = .returned (.tuple #[.string r1, .int .i64 r2]) ∧ Below w.heap.size w w' := by
  have HG := Aside0.mk hG
  clear hG
  have HB := Aside0.mk (Below.refl w.heap.size w)
  have H : (if a0 < 0 then (token_Percent.j0 k a0 true) else (token_Percent.j0 k a0 (decide (a0 > 1000000)))) = some (r1, r2) := h
  clear h
  have HC2 := Aside0.mk H
  clear H
  go_enter Tryz.func22, Tryz.ntmps22
  go_upto_region 1 with (fail)
  go_cut [11] (fun v11 wc => ∃ (kq : Nat) (x11_1 : Bool), v11 = .bool x11_1 ∧ Aside0 (token_Percent.j0 kq a0 x11_1 = some (r1, r2)) ∧ Aside0 (kq ≤ k) ∧ Aside0 (Below w.heap.size w wc))
  case first =>
    have H := HC2.out
    clear HC2
    by_cases c3 : a0 < 0
    · rw [if_pos c3] at H
      have c3b0 : decide (a0 < 0) = true := decide_eq_true c3
      clear c3
      (first | rw [c3b0] | (simp only [i64_w, i32_w]; rw [c3b0]) | skip)
      have H' := Aside0.mk H
      clear H
      go_wp2
      go_meet
      case rel => exact ⟨_, (true), (by first | rfl | (simp; done) | (simp [*]; done)), H', ⟨by first | omega | exact Nat.le_refl _⟩, ⟨by repeat (first | (with_reducible first | exact HB.out | apply below_alloc | apply pw_below_drewN | apply below_drew1) | exact HB.out)⟩⟩
    · rw [if_neg c3] at H
      have c3b0 : decide (a0 < 0) = false := decide_eq_false c3
      clear c3
      (first | rw [c3b0] | (simp only [i64_w, i32_w]; rw [c3b0]) | skip)
      have H' := Aside0.mk H
      clear H
      go_wp2
      go_meet
      case rel => exact ⟨_, (decide (a0 > 1000000)), (by first | rfl | (simp; done) | (simp [*]; done)), H', ⟨by first | omega | exact Nat.le_refl _⟩, ⟨by repeat (first | (with_reducible first | exact HB.out | apply below_alloc | apply pw_below_drewN | apply below_drew1) | exact HB.out)⟩⟩
  case rest =>
    clear HC2
    try clear c2
    try clear p2
    try clear c3
    try clear c3b0
    obtain ⟨kq, x11_1, rfl, HA, HJ1, HB⟩ := hcut
    cases kq with
    | zero => exact absurd HA.out (by simp [token_Percent.j0])
    | succ kj1 =>
      have H := HA.out
      clear HA
      simp only [token_Percent.j0] at H
      by_cases c4 : x11_1 = true
      · subst c4
        have H1 : (some ((⟨#[]⟩ : ByteArray), 1)) = some (r1, r2) := by rw [if_pos rfl] at H; exact H
        clear H
        have H := H1
        clear H1
        simp only [Option.some.injEq, Prod.mk.injEq] at H
        obtain ⟨rfl, rfl⟩ := H
        go_wp2
        go_ret2
        exact ⟨by first | rfl | (simp [errW_none, errW_some] <;> rfl) | (simp [*, errW_none, errW_some] <;> rfl), by repeat (first | (with_reducible first | exact HB.out | apply below_alloc | apply pw_below_drewN | apply below_drew1) | exact HB.out)⟩
      · replace c4 := Bool.eq_false_iff.mpr c4
        subst c4
        have H1 : ((strconv_Itoa.f (wrap64 (10000 + (Int.tmod a0 10000)))).bind fun t171 => (if 1 ≤ (t171.size : Int) then ((strings_TrimRight.f (t171.extract 1 t171.size) (⟨#[48]⟩ : ByteArray)).bind fun t173 => ((strconv_Itoa.f (wrap64 (Int.tdiv a0 10000))).bind fun t174 => (if t173.toList = ([] : List UInt8) then (if t174.size + 1 ≤ 9223372036854775807 then (some (t174 ++ (⟨#[37]⟩ : ByteArray), 0)) else (none)) else (if 1 + t173.size ≤ 9223372036854775807 then (if t174.size + 1 + t173.size ≤ 9223372036854775807 then (if t174.size + (1 + t173.size) + 1 ≤ 9223372036854775807 then (some ((t174 ++ ((⟨#[46]⟩ : ByteArray) ++ t173)) ++ (⟨#[37]⟩ : ByteArray), 0)) else (none)) else (none)) else (none))))) else (none))) = some (r1, r2) := by rw [if_neg (show ¬ (false = true) by decide)] at H; exact H
        clear H
        have H := H1
        clear H1
        replace H := Option.bind_eq_some_iff.mp H
        obtain ⟨t171, A50, H⟩ := H
        replace H : (if 1 ≤ (t171.size : Int) then ((strings_TrimRight.f (t171.extract 1 t171.size) (⟨#[48]⟩ : ByteArray)).bind fun t173 => ((strconv_Itoa.f (wrap64 (Int.tdiv a0 10000))).bind fun t174 => (if t173.toList = ([] : List UInt8) then (if t174.size + 1 ≤ 9223372036854775807 then (some (t174 ++ (⟨#[37]⟩ : ByteArray), 0)) else (none)) else (if 1 + t173.size ≤ 9223372036854775807 then (if t174.size + 1 + t173.size ≤ 9223372036854775807 then (if t174.size + (1 + t173.size) + 1 ≤ 9223372036854775807 then (some ((t174 ++ ((⟨#[46]⟩ : ByteArray) ++ t173)) ++ (⟨#[37]⟩ : ByteArray), 0)) else (none)) else (none)) else (none))))) else (none)) = some (r1, r2) := H
        have A5 := Aside0.mk A50
        clear A50
        by_cases c6 : 1 ≤ (t171.size : Int)
        · rw [if_pos c6] at H
          have c6b0 := eq_true c6
          have c6b1 : decide (1 ≤ (t171.size : Int)) = true := decide_eq_true c6
          clear c6
          obtain ⟨y172, hy172⟩ : ∃ y_ : ByteArray, y_ = (t171.extract 1 t171.size) := ⟨_, rfl⟩
          replace H : ((strings_TrimRight.f y172 (⟨#[48]⟩ : ByteArray)).bind fun t173 => ((strconv_Itoa.f (wrap64 (Int.tdiv a0 10000))).bind fun t174 => (if t173.toList = ([] : List UInt8) then (if t174.size + 1 ≤ 9223372036854775807 then (some (t174 ++ (⟨#[37]⟩ : ByteArray), 0)) else (none)) else (if 1 + t173.size ≤ 9223372036854775807 then (if t174.size + 1 + t173.size ≤ 9223372036854775807 then (if t174.size + (1 + t173.size) + 1 ≤ 9223372036854775807 then (some ((t174 ++ ((⟨#[46]⟩ : ByteArray) ++ t173)) ++ (⟨#[37]⟩ : ByteArray), 0)) else (none)) else (none)) else (none))))) = some (r1, r2) := by first | (rw [hy172]; with_reducible exact H) | (have H2_ := (Option.bind_some _ _).symm.trans H; rw [hy172]; with_reducible exact H2_) | (have H2_ := (Option.bind_some _ _).symm.trans H; with_reducible exact H2_) | with_reducible exact H | (rw [hy172]; exact H) | exact H
          have Ny172 := Aside0.mk hy172
          clear hy172
          replace H := Option.bind_eq_some_iff.mp H
          obtain ⟨t173, A70, H⟩ := H
          replace H : ((strconv_Itoa.f (wrap64 (Int.tdiv a0 10000))).bind fun t174 => (if t173.toList = ([] : List UInt8) then (if t174.size + 1 ≤ 9223372036854775807 then (some (t174 ++ (⟨#[37]⟩ : ByteArray), 0)) else (none)) else (if 1 + t173.size ≤ 9223372036854775807 then (if t174.size + 1 + t173.size ≤ 9223372036854775807 then (if t174.size + (1 + t173.size) + 1 ≤ 9223372036854775807 then (some ((t174 ++ ((⟨#[46]⟩ : ByteArray) ++ t173)) ++ (⟨#[37]⟩ : ByteArray), 0)) else (none)) else (none)) else (none)))) = some (r1, r2) := H
          have A7 := Aside0.mk A70
          clear A70
          replace H := Option.bind_eq_some_iff.mp H
          obtain ⟨t174, A80, H⟩ := H
          replace H : (if t173.toList = ([] : List UInt8) then (if t174.size + 1 ≤ 9223372036854775807 then (some (t174 ++ (⟨#[37]⟩ : ByteArray), 0)) else (none)) else (if 1 + t173.size ≤ 9223372036854775807 then (if t174.size + 1 + t173.size ≤ 9223372036854775807 then (if t174.size + (1 + t173.size) + 1 ≤ 9223372036854775807 then (some ((t174 ++ ((⟨#[46]⟩ : ByteArray) ++ t173)) ++ (⟨#[37]⟩ : ByteArray), 0)) else (none)) else (none)) else (none))) = some (r1, r2) := H
          have A8 := Aside0.mk A80
          clear A80
          by_cases c9 : t173.toList = ([] : List UInt8)
          · rw [if_pos c9] at H
            have c9b0 : (t173.toList == ([] : List UInt8)) = true := beq_iff_eq.mpr c9
            have c9b1 : (t173.toList != ([] : List UInt8)) = false := bne_eq_false_iff_eq.mpr c9
            clear c9
            by_cases c10 : t174.size + 1 ≤ 9223372036854775807
            · rw [if_pos c10] at H
              have c10b0 := eq_true c10
              have c10b1 : decide (t174.size + 1 ≤ 9223372036854775807) = true := decide_eq_true c10
              try have c10b2 : (9223372036854775807 < t174.size + 1) = False := eq_false (Nat.not_lt.2 c10)
              simp only [Option.some.injEq, Prod.mk.injEq] at H
              obtain ⟨rfl, rfl⟩ := H
              go_wp2_with (first | ((with_reducible refine gate_callee (f := 46) rfl ?_); refine goesL_ (some 15) rfl rfl Tryz.func46 (by kernel_rfl) rfl #[.int .i64 (wrap64 (10000 + (Int.tmod a0 10000)))] rfl (by (try simp only [List.map_toArray, List.map_cons, List.map_nil]); first | done | rfl | (simp only [List.length_drop, List.length_take]; rfl)) ?_; (with_reducible refine (strconv_Itoa.calls (wrap64 (10000 + (Int.tmod a0 10000))) t171 _ ?side1 A5.out).mono ?_); (case side1 => exact Gl.step HG.out (by repeat (first | (with_reducible first | exact HB.out | apply below_alloc | apply pw_below_drewN | apply below_drew1) | exact HB.out))); rintro e w11 ⟨rfl, hb⟩; refine ⟨_, rfl, ?_⟩; have n0_ := Aside0.mk (below_step (by repeat (first | (with_reducible first | exact HB.out | apply below_alloc | apply pw_below_drewN | apply below_drew1) | exact HB.out)) hb); clear HB; have HB := n0_; clear n0_; (try clear hb); (try clear hb2); (try clear hk); (try clear hi)) | ((with_reducible refine gate_dst (N := 16) rfl ?_); refine str_name Ny172.out ?hg ?hr ?_; (case hg => rfl); (case hr => first | (go_simp; done) | (go_simp; rfl))) | ((with_reducible refine gate_callee (f := 47) rfl ?_); refine goesL_ (some 18) rfl rfl Tryz.func47 (by kernel_rfl) rfl #[.string y172, .string (⟨#[48]⟩ : ByteArray)] rfl (by (try simp only [List.map_toArray, List.map_cons, List.map_nil]); first | done | rfl | (simp only [List.length_drop, List.length_take]; rfl)) ?_; (with_reducible refine (strings_TrimRight.calls y172 (⟨#[48]⟩ : ByteArray) t173 _ A7.out).mono ?_); rintro e w12 ⟨rfl, hb⟩; refine ⟨_, rfl, ?_⟩; have n0_ := Aside0.mk (below_step (by repeat (first | (with_reducible first | exact HB.out | apply below_alloc | apply pw_below_drewN | apply below_drew1) | exact HB.out)) hb); clear HB; have HB := n0_; clear n0_; (try clear hb); (try clear hb2); (try clear hk); (try clear hi)) | ((with_reducible refine gate_callee (f := 46) rfl ?_); refine goesL_ (some 21) rfl rfl Tryz.func46 (by kernel_rfl) rfl #[.int .i64 (wrap64 (Int.tdiv a0 10000))] rfl (by (try simp only [List.map_toArray, List.map_cons, List.map_nil]); first | done | rfl | (simp only [List.length_drop, List.length_take]; rfl)) ?_; (with_reducible refine (strconv_Itoa.calls (wrap64 (Int.tdiv a0 10000)) t174 _ ?side1 A8.out).mono ?_); (case side1 => exact Gl.step HG.out (by repeat (first | (with_reducible first | exact HB.out | apply below_alloc | apply pw_below_drewN | apply below_drew1) | exact HB.out))); rintro e w13 ⟨rfl, hb⟩; refine ⟨_, rfl, ?_⟩; have n0_ := Aside0.mk (below_step (by repeat (first | (with_reducible first | exact HB.out | apply below_alloc | apply pw_below_drewN | apply below_drew1) | exact HB.out)) hb); clear HB; have HB := n0_; clear n0_; (try clear hb); (try clear hb2); (try clear hk); (try clear hi)))
              go_ret2
              exact ⟨by first | rfl | (simp [errW_none, errW_some] <;> rfl) | (simp [*, errW_none, errW_some] <;> rfl), by repeat (first | (with_reducible first | exact HB.out | apply below_alloc | apply pw_below_drewN | apply below_drew1) | exact HB.out)⟩
            · rw [if_neg c10] at H
              exact absurd H (by simp)
          · rw [if_neg c9] at H
            have c9b0 : (t173.toList == ([] : List UInt8)) = false := beq_eq_false_iff_ne.mpr c9
            have c9b1 : (t173.toList != ([] : List UInt8)) = true := bne_iff_ne.mpr c9
            by_cases c14 : 1 + t173.size ≤ 9223372036854775807
            · rw [if_pos c14] at H
              have c14b0 := eq_true c14
              have c14b1 : decide (1 + t173.size ≤ 9223372036854775807) = true := decide_eq_true c14
              try have c14b2 : (9223372036854775807 < 1 + t173.size) = False := eq_false (Nat.not_lt.2 c14)
              by_cases c15 : t174.size + 1 + t173.size ≤ 9223372036854775807
              · rw [if_pos c15] at H
                have c15b0 := eq_true c15
                have c15b1 : decide (t174.size + 1 + t173.size ≤ 9223372036854775807) = true := decide_eq_true c15
                try have c15b2 : (9223372036854775807 < t174.size + 1 + t173.size) = False := eq_false (Nat.not_lt.2 c15)
                by_cases c16 : t174.size + (1 + t173.size) + 1 ≤ 9223372036854775807
                · rw [if_pos c16] at H
                  have c16b0 := eq_true c16
                  have c16b1 : decide (t174.size + (1 + t173.size) + 1 ≤ 9223372036854775807) = true := decide_eq_true c16
                  try have c16b2 : (9223372036854775807 < t174.size + (1 + t173.size) + 1) = False := eq_false (Nat.not_lt.2 c16)
                  simp only [Option.some.injEq, Prod.mk.injEq] at H
                  obtain ⟨rfl, rfl⟩ := H
                  go_wp2_with (first | ((with_reducible refine gate_callee (f := 46) rfl ?_); refine goesL_ (some 15) rfl rfl Tryz.func46 (by kernel_rfl) rfl #[.int .i64 (wrap64 (10000 + (Int.tmod a0 10000)))] rfl (by (try simp only [List.map_toArray, List.map_cons, List.map_nil]); first | done | rfl | (simp only [List.length_drop, List.length_take]; rfl)) ?_; (with_reducible refine (strconv_Itoa.calls (wrap64 (10000 + (Int.tmod a0 10000))) t171 _ ?side1 A5.out).mono ?_); (case side1 => exact Gl.step HG.out (by repeat (first | (with_reducible first | exact HB.out | apply below_alloc | apply pw_below_drewN | apply below_drew1) | exact HB.out))); rintro e w17 ⟨rfl, hb⟩; refine ⟨_, rfl, ?_⟩; have n0_ := Aside0.mk (below_step (by repeat (first | (with_reducible first | exact HB.out | apply below_alloc | apply pw_below_drewN | apply below_drew1) | exact HB.out)) hb); clear HB; have HB := n0_; clear n0_; (try clear hb); (try clear hb2); (try clear hk); (try clear hi)) | ((with_reducible refine gate_dst (N := 16) rfl ?_); refine str_name Ny172.out ?hg ?hr ?_; (case hg => rfl); (case hr => first | (go_simp; done) | (go_simp; rfl))) | ((with_reducible refine gate_callee (f := 47) rfl ?_); refine goesL_ (some 18) rfl rfl Tryz.func47 (by kernel_rfl) rfl #[.string y172, .string (⟨#[48]⟩ : ByteArray)] rfl (by (try simp only [List.map_toArray, List.map_cons, List.map_nil]); first | done | rfl | (simp only [List.length_drop, List.length_take]; rfl)) ?_; (with_reducible refine (strings_TrimRight.calls y172 (⟨#[48]⟩ : ByteArray) t173 _ A7.out).mono ?_); rintro e w18 ⟨rfl, hb⟩; refine ⟨_, rfl, ?_⟩; have n0_ := Aside0.mk (below_step (by repeat (first | (with_reducible first | exact HB.out | apply below_alloc | apply pw_below_drewN | apply below_drew1) | exact HB.out)) hb); clear HB; have HB := n0_; clear n0_; (try clear hb); (try clear hb2); (try clear hk); (try clear hi)) | ((with_reducible refine gate_callee (f := 46) rfl ?_); refine goesL_ (some 21) rfl rfl Tryz.func46 (by kernel_rfl) rfl #[.int .i64 (wrap64 (Int.tdiv a0 10000))] rfl (by (try simp only [List.map_toArray, List.map_cons, List.map_nil]); first | done | rfl | (simp only [List.length_drop, List.length_take]; rfl)) ?_; (with_reducible refine (strconv_Itoa.calls (wrap64 (Int.tdiv a0 10000)) t174 _ ?side1 A8.out).mono ?_); (case side1 => exact Gl.step HG.out (by repeat (first | (with_reducible first | exact HB.out | apply below_alloc | apply pw_below_drewN | apply below_drew1) | exact HB.out))); rintro e w19 ⟨rfl, hb⟩; refine ⟨_, rfl, ?_⟩; have n0_ := Aside0.mk (below_step (by repeat (first | (with_reducible first | exact HB.out | apply below_alloc | apply pw_below_drewN | apply below_drew1) | exact HB.out)) hb); clear HB; have HB := n0_; clear n0_; (try clear hb); (try clear hb2); (try clear hk); (try clear hi)))
                  go_ret2
                  exact ⟨by first | rfl | (simp [errW_none, errW_some] <;> rfl) | (simp [*, errW_none, errW_some] <;> rfl), by repeat (first | (with_reducible first | exact HB.out | apply below_alloc | apply pw_below_drewN | apply below_drew1) | exact HB.out)⟩
                · rw [if_neg c16] at H
                  exact absurd H (by simp)
              · rw [if_neg c15] at H
                exact absurd H (by simp)
            · rw [if_neg c14] at H
              exact absurd H (by simp)
        · rw [if_neg c6] at H
          exact absurd H (by simp)

end Go.Proofs.YtmcebojboffdoaaGreatDoor.P
