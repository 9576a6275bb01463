-- PRINTED by print.py (a twelfth state) out of the translation. Not trusted: Lean checks it.
import Derived.Test.YtmcebojboffdoaaGreatDoorP0
import Derived.Test.YtmcebojboffdoaaGreatDoorP30
namespace Go.Proofs.YtmcebojboffdoaaGreatDoor.P
open Go.RowKit Go.Proofs.YtmcebojboffdoaaGreatDoorW.PrintWords Go.Proofs.YtmcebojboffdoaaGreatDoorW.PrintLast Go.Proofs.YtmcebojboffdoaaGreatDoorW.PrintMore
attribute [local go_sem] max2_int min2_int max_two min_two max_three min_three max_four min_four   -- for this text's walks alone
set_option linter.unusedVariables false
set_option linter.unusedSimpArgs false

/-! ### corebankref09_Percent: function 23 -/
mutual
def corebankref09_Percent.j0 : Nat → Int → Bool → Option (ByteArray × Int)
  | 0, _, _ => none
  | k + 1, x0, x11 => if x11 = true then (some ((⟨#[]⟩ : ByteArray), 1)) else ((corebankref09_digits.f k (wrap64 (Int.tdiv x0 10000)) 1).bind fun t319 => ((corebankref09_digits.f k (Int.tmod x0 10000) 4).bind fun t320 => (corebankref09_Percent.l0 k t319 t320)))
def corebankref09_Percent.l0 : Nat → ByteArray → ByteArray → Option (ByteArray × Int)
  | 0, _, _ => none
  | k + 1, x4, x5 => if (x5.size : Int) > 0 then (if 0 ≤ (wrap64 ((x5.size : Int) - 1)) then (if (wrap64 ((x5.size : Int) - 1)) < (x5.size : Int) then (if (bt x5 (wrap64 ((x5.size : Int) - 1))) = 48 then (if (wrap64 ((x5.size : Int) - 1)) ≤ (x5.size : Int) then (corebankref09_Percent.l0 k x4 (x5.extract 0 ((wrap64 ((x5.size : Int) - 1)) : Int).toNat)) else (none)) else (if x5.toList = ([] : List UInt8) then (if x4.size + 1 ≤ 9223372036854775807 then (some (x4 ++ (⟨#[37]⟩ : ByteArray), 0)) else (none)) else (if x4.size + 1 ≤ 9223372036854775807 then (if x4.size + 1 + x5.size ≤ 9223372036854775807 then (if x4.size + 1 + x5.size + 1 ≤ 9223372036854775807 then (some (((x4 ++ (⟨#[46]⟩ : ByteArray)) ++ x5) ++ (⟨#[37]⟩ : ByteArray), 0)) else (none)) else (none)) else (none)))) else (none)) else (none)) else (if x5.toList = ([] : List UInt8) then (if x4.size + 1 ≤ 9223372036854775807 then (some (x4 ++ (⟨#[37]⟩ : ByteArray), 0)) else (none)) else (if x4.size + 1 ≤ 9223372036854775807 then (if x4.size + 1 + x5.size ≤ 9223372036854775807 then (if x4.size + 1 + x5.size + 1 ≤ 9223372036854775807 then (some (((x4 ++ (⟨#[46]⟩ : ByteArray)) ++ x5) ++ (⟨#[37]⟩ : ByteArray), 0)) else (none)) else (none)) else (none)))
end
def corebankref09_Percent.f (k : Nat) (a0 : Int) : Option (ByteArray × Int) := if a0 < 0 then (corebankref09_Percent.j0 k a0 true) else (corebankref09_Percent.j0 k a0 (decide (a0 > 1000000)))
theorem corebankref09_Percent.mono_l : ∀ k, (∀ y0 y1, LeO (corebankref09_Percent.j0 k y0 y1) (corebankref09_Percent.j0 (k + 1) y0 y1)) ∧ (∀ y0 y1, LeO (corebankref09_Percent.l0 k y0 y1) (corebankref09_Percent.l0 (k + 1) y0 y1))
  | 0 => ⟨fun _ _ r h => by simp [corebankref09_Percent.j0] at h, fun _ _ r h => by simp [corebankref09_Percent.l0] at h⟩
  | k + 1 => by
    obtain ⟨ih0, ih1⟩ := corebankref09_Percent.mono_l k
    refine ⟨?_, ?_⟩
    · intro y0 y1
      unfold corebankref09_Percent.j0
      repeat' first
      | (with_reducible exact ih0 _ _)
      | (with_reducible exact ih1 _ _)
      | (with_reducible exact corebankref09_digits.mono _ _ _)
      | (with_reducible exact LeO.refl _)
      | (with_reducible exact LeO.none _)
      | (with_reducible refine LeO.ite ?_ ?_)
      | (with_reducible refine LeO.bind ?_ (fun _ => ?_))
      | exact ih0 _ _
      | exact ih1 _ _
      | exact corebankref09_digits.mono _ _ _
      | exact LeO.none _
      | refine LeO.ite ?_ ?_
      | refine LeO.bind ?_ (fun _ => ?_)
    · intro y0 y1
      unfold corebankref09_Percent.l0
      repeat' first
      | (with_reducible exact ih0 _ _)
      | (with_reducible exact ih1 _ _)
      | (with_reducible exact corebankref09_digits.mono _ _ _)
      | (with_reducible exact LeO.refl _)
      | (with_reducible exact LeO.none _)
      | (with_reducible refine LeO.ite ?_ ?_)
      | (with_reducible refine LeO.bind ?_ (fun _ => ?_))
      | exact ih0 _ _
      | exact ih1 _ _
      | exact corebankref09_digits.mono _ _ _
      | exact LeO.none _
      | refine LeO.ite ?_ ?_
      | refine LeO.bind ?_ (fun _ => ?_)
theorem corebankref09_Percent.mono : ∀ a0 k, LeO (corebankref09_Percent.f k a0) (corebankref09_Percent.f (k + 1) a0) := by
  intro a0 k
  obtain ⟨ih0, ih1⟩ := corebankref09_Percent.mono_l k
  unfold corebankref09_Percent.f
  repeat' first
      | (with_reducible exact ih0 _ _)
      | (with_reducible exact ih1 _ _)
      | (with_reducible exact corebankref09_digits.mono _ _ _)
      | (with_reducible exact LeO.refl _)
      | (with_reducible exact LeO.none _)
      | (with_reducible refine LeO.ite ?_ ?_)
      | (with_reducible refine LeO.bind ?_ (fun _ => ?_))
      | exact ih0 _ _
      | exact ih1 _ _
      | exact corebankref09_digits.mono _ _ _
      | exact LeO.none _
      | refine LeO.ite ?_ ?_
      | refine LeO.bind ?_ (fun _ => ?_)
set_option maxHeartbeats 8000000 in
set_option maxRecDepth 100000 in
theorem corebankref09_Percent.calls (k : Nat) (a0 : Int) (r1 : ByteArray) (r2 : Int) (w : World) (h : corebankref09_Percent.f k a0 = some (r1, r2)) :
    Calls Tryz.prog 23 #[.int .i64 a0] w fun e w' => e = .returned (.tuple #[.string r1, .int .i64 r2]) ∧ Drawn0 w w' := by
  have H : (if a0 < 0 then (corebankref09_Percent.j0 k a0 true) else (corebankref09_Percent.j0 k a0 (decide (a0 > 1000000)))) = some (r1, r2) := h
  clear h
  have HC2 := Aside0.mk H
  clear H
  go_enter Tryz.func23, Tryz.ntmps23
  go_upto_region 1 with (fail)
  go_cut [11] (fun v11 wc => ∃ (kq : Nat) (x11_1 : Bool), v11 = .bool x11_1 ∧ Aside0 (corebankref09_Percent.j0 kq a0 x11_1 = some (r1, r2)) ∧ Aside0 (kq ≤ k) ∧ Drawn0 w wc)
  case first =>
    have H := HC2.out
    clear HC2
    by_cases c3 : a0 < 0
    · rw [if_pos c3] at H
      have c3b0 : decide (a0 < 0) = true := decide_eq_true c3
      clear c3
      (first | rw [c3b0] | (simp only [i64_w, i32_w]; rw [c3b0]) | skip)
      have H' := Aside0.mk H
      clear H
      go_wp2
      go_meet
      case rel => exact ⟨_, (true), (by first | rfl | (simp; done) | (simp [*]; done)), H', ⟨by first | omega | exact Nat.le_refl _⟩, by repeat (first | exact Drawn0.refl _ | apply Drawn0.step)⟩
    · rw [if_neg c3] at H
      have c3b0 : decide (a0 < 0) = false := decide_eq_false c3
      clear c3
      (first | rw [c3b0] | (simp only [i64_w, i32_w]; rw [c3b0]) | skip)
      have H' := Aside0.mk H
      clear H
      go_wp2
      go_meet
      case rel => exact ⟨_, (decide (a0 > 1000000)), (by first | rfl | (simp; done) | (simp [*]; done)), H', ⟨by first | omega | exact Nat.le_refl _⟩, by repeat (first | exact Drawn0.refl _ | apply Drawn0.step)⟩
  case rest =>
    clear HC2
    try clear c2
    try clear p2
    try clear c3
    try clear c3b0
    obtain ⟨kq, x11_1, rfl, HA, HJ1, ⟨mc1, rfl⟩⟩ := hcut
    cases kq with
    | zero => exact absurd HA.out (by simp [corebankref09_Percent.j0])
    | succ kj1 =>
      have H := HA.out
      clear HA
      simp only [corebankref09_Percent.j0] at H
      by_cases c4 : x11_1 = true
      · subst c4
        have H1 : (some ((⟨#[]⟩ : ByteArray), 1)) = some (r1, r2) := by rw [if_pos rfl] at H; exact H
        clear H
        have H := H1
        clear H1
        simp only [Option.some.injEq, Prod.mk.injEq] at H
        obtain ⟨rfl, rfl⟩ := H
        go_wp2
        go_ret2
        exact ⟨by first | rfl | (simp; done) | (simp [*]; done), by repeat (first | exact Drawn0.refl _ | apply Drawn0.step)⟩
      · replace c4 := Bool.eq_false_iff.mpr c4
        subst c4
        have H1 : ((corebankref09_digits.f kj1 (wrap64 (Int.tdiv a0 10000)) 1).bind fun t319 => ((corebankref09_digits.f kj1 (Int.tmod a0 10000) 4).bind fun t320 => (corebankref09_Percent.l0 kj1 t319 t320))) = some (r1, r2) := by rw [if_neg (show ¬ (false = true) by decide)] at H; exact H
        clear H
        have H := H1
        clear H1
        replace H := Option.bind_eq_some_iff.mp H
        obtain ⟨t319, A50, H⟩ := H
        replace H : ((corebankref09_digits.f kj1 (Int.tmod a0 10000) 4).bind fun t320 => (corebankref09_Percent.l0 kj1 t319 t320)) = some (r1, r2) := H
        have A5 := Aside0.mk A50
        clear A50
        replace H := Option.bind_eq_some_iff.mp H
        obtain ⟨t320, A60, H⟩ := H
        replace H : (corebankref09_Percent.l0 kj1 t319 t320) = some (r1, r2) := H
        have A6 := Aside0.mk A60
        clear A60
        have H' := Aside0.mk H
        clear H
        go_wp2_with (first | ((with_reducible refine gate_callee (f := 48) rfl ?_); refine goesL_ (some 14) rfl rfl Tryz.func48 (by kernel_rfl) rfl #[.int .i64 (wrap64 (Int.tdiv a0 10000)), .int .i64 1] rfl (by (try simp only [List.map_toArray, List.map_cons, List.map_nil]); first | done | rfl | (simp only [List.length_drop, List.length_take]; rfl)) ?_; (with_reducible refine (corebankref09_digits.calls kj1 (wrap64 (Int.tdiv a0 10000)) 1 t319 _ A5.out).mono ?_); rintro e w' ⟨rfl, ⟨nd, rfl⟩⟩; refine ⟨_, rfl, ?_⟩) | ((with_reducible refine gate_callee (f := 48) rfl ?_); refine goesL_ (some 17) rfl rfl Tryz.func48 (by kernel_rfl) rfl #[.int .i64 (Int.tmod a0 10000), .int .i64 4] rfl (by (try simp only [List.map_toArray, List.map_cons, List.map_nil]); first | done | rfl | (simp only [List.length_drop, List.length_take]; rfl)) ?_; (with_reducible refine (corebankref09_digits.calls kj1 (Int.tmod a0 10000) 4 t320 _ A6.out).mono ?_); rintro e w' ⟨rfl, ⟨nd, rfl⟩⟩; refine ⟨_, rfl, ?_⟩))
        go_loopg [5] kj1 (fun kq v5 w' => ∃ (x5_2 : ByteArray), v5 = .string x5_2 ∧ Aside0 (corebankref09_Percent.l0 kq t319 x5_2 = some (r1, r2)) ∧ Aside0 (kq ≤ kj1) ∧ Drawn0 w w')
        case atStart => exact ⟨(t320), (by first | rfl | (simp; done) | (simp [*]; done)), H', ⟨Nat.le_refl _⟩, by repeat (first | exact Drawn0.refl _ | apply Drawn0.step)⟩
        case round =>
          clear H'
          try clear c1
          try clear c2
          try clear p2
          try clear c3
          try clear c3b0
          try clear c4
          try clear p6
          try clear p2
          obtain ⟨x5_2, rfl, HA, HK2, ⟨m2, rfl⟩⟩ := hrel
          cases gk with
          | zero => exact absurd HA.out (by simp [corebankref09_Percent.l0])
          | succ k2 =>
            have H := HA.out
            clear HA
            simp only [corebankref09_Percent.l0] at H
            by_cases c7 : (x5_2.size : Int) > 0
            · rw [if_pos c7] at H
              have c7b0 : decide (0 < (x5_2.size : Int)) = true := decide_eq_true c7
              have c7b1 : decide (0 < x5_2.size) = true := decide_eq_true (by omega)
              clear c7
              obtain ⟨ji8, hji8⟩ : ∃ j_ : Int, (wrap64 ((x5_2.size : Int) - 1)) = j_ := ⟨_, rfl⟩
              replace H : (if 0 ≤ (ji8) then (if (ji8) < (x5_2.size : Int) then (if (bt x5_2 (ji8)) = 48 then (if (ji8) ≤ (x5_2.size : Int) then (corebankref09_Percent.l0 k2 t319 (x5_2.extract 0 ((ji8) : Int).toNat)) else (none)) else (if x5_2.toList = ([] : List UInt8) then (if t319.size + 1 ≤ 9223372036854775807 then (some (t319 ++ (⟨#[37]⟩ : ByteArray), 0)) else (none)) else (if t319.size + 1 ≤ 9223372036854775807 then (if t319.size + 1 + x5_2.size ≤ 9223372036854775807 then (if t319.size + 1 + x5_2.size + 1 ≤ 9223372036854775807 then (some (((t319 ++ (⟨#[46]⟩ : ByteArray)) ++ x5_2) ++ (⟨#[37]⟩ : ByteArray), 0)) else (none)) else (none)) else (none)))) else (none)) else (none)) = some (r1, r2) := by first | (rw [hji8] at H; exact H) | (simp only [hji8] at H ⊢; exact H)
              have hji8w : (IntKind.i64.wrap ((x5_2.size : Int) - 1)) = ji8 := (i64_w _).trans hji8
              by_cases c9 : 0 ≤ (ji8)
              · rw [if_pos c9] at H
                have c9b0 : decide (0 ≤ (ji8)) = true := decide_eq_true c9
                clear c9
                by_cases c10 : (ji8) < (x5_2.size : Int)
                · rw [if_pos c10] at H
                  have c10b0 : decide ((ji8) < (x5_2.size : Int)) = true := decide_eq_true c10
                  clear c10
                  by_cases c12 : (bt x5_2 (ji8)) = 48
                  · rw [if_pos c12] at H
                    have c12b0 : ((bt x5_2 (ji8)) == 48) = true := beq_iff_eq.mpr c12
                    have c12b1 : ((bt x5_2 (ji8)) != 48) = false := bne_eq_false_iff_eq.mpr c12
                    clear c12
                    have c13b0 := eq_true (of_decide_eq_true (by first | (with_reducible assumption) | assumption) : 0 ≤ (ji8))
                    by_cases c14 : (ji8) ≤ (x5_2.size : Int)
                    · rw [if_pos c14] at H
                      have c14b0 := eq_true c14
                      have c14b1 : decide ((ji8) ≤ (x5_2.size : Int)) = true := decide_eq_true c14
                      clear c14
                      obtain ⟨y321, hy321⟩ : ∃ y_ : ByteArray, y_ = (x5_2.extract 0 ((ji8) : Int).toNat) := ⟨_, rfl⟩
                      replace H : (corebankref09_Percent.l0 k2 t319 y321) = some (r1, r2) := by first | (rw [hy321]; with_reducible exact H) | (have H2_ := (Option.bind_some _ _).symm.trans H; rw [hy321]; with_reducible exact H2_) | (have H2_ := (Option.bind_some _ _).symm.trans H; with_reducible exact H2_) | with_reducible exact H | (rw [hy321]; exact H) | exact H
                      have Ny321 := Aside0.mk hy321
                      clear hy321
                      have H' := Aside0.mk H
                      clear H
                      have p11 : 0 ≤ ((ji8) : Int) := of_decide_eq_true (by first | (with_reducible assumption) | assumption)
                      have q11 : (ji8) < (x5_2.size : Int) := of_decide_eq_true (by first | (with_reducible assumption) | assumption)
                      have hx11 := bt_at x5_2 (ji8)
                      replace p11 := eq_true p11
                      replace q11 := eq_true q11
                      go_wp2_with (first | ((with_reducible refine gate_dst (N := 33) rfl ?_); (try (refine gate_guard (by rfl) ?_; dsimp only)); refine str_name Ny321.out ?hg ?hr ?_; (case hg => rfl); (case hr => first | (go_simp; done) | (go_simp; rfl))))
                      go_roundg k2
                      case measure => have := HJ1.out; have := HK2.out; omega
                      case rel => exact ⟨(y321), (by first | rfl | (simp; done) | (simp [*]; done)), H', ⟨by have := HJ1.out; have := HK2.out; omega⟩, by repeat (first | exact Drawn0.refl _ | apply Drawn0.step)⟩
                    · rw [if_neg c14] at H
                      exact absurd H (by simp)
                  · rw [if_neg c12] at H
                    have c12b0 : ((bt x5_2 (ji8)) == 48) = false := beq_eq_false_iff_ne.mpr c12
                    have c12b1 : ((bt x5_2 (ji8)) != 48) = true := bne_iff_ne.mpr c12
                    by_cases c15 : x5_2.toList = ([] : List UInt8)
                    · rw [if_pos c15] at H
                      have c15b0 : (x5_2.toList == ([] : List UInt8)) = true := beq_iff_eq.mpr c15
                      have c15b1 : (x5_2.toList != ([] : List UInt8)) = false := bne_eq_false_iff_eq.mpr c15
                      clear c15
                      by_cases c16 : t319.size + 1 ≤ 9223372036854775807
                      · rw [if_pos c16] at H
                        have c16b0 := eq_true c16
                        have c16b1 : decide (t319.size + 1 ≤ 9223372036854775807) = true := decide_eq_true c16
                        try have c16b2 : (9223372036854775807 < t319.size + 1) = False := eq_false (Nat.not_lt.2 c16)
                        simp only [Option.some.injEq, Prod.mk.injEq] at H
                        obtain ⟨rfl, rfl⟩ := H
                        have p11 : 0 ≤ ((ji8) : Int) := of_decide_eq_true (by first | (with_reducible assumption) | assumption)
                        have q11 : (ji8) < (x5_2.size : Int) := of_decide_eq_true (by first | (with_reducible assumption) | assumption)
                        have hx11 := bt_at x5_2 (ji8)
                        replace p11 := eq_true p11
                        replace q11 := eq_true q11
                        go_wp2
                        go_ret2
                        exact ⟨by first | rfl | (simp; done) | (simp only [← hji8] <;> (first | rfl | simp)) | (simp [*]; done), by repeat (first | exact Drawn0.refl _ | apply Drawn0.step)⟩
                      · rw [if_neg c16] at H
                        exact absurd H (by simp)
                    · rw [if_neg c15] at H
                      have c15b0 : (x5_2.toList == ([] : List UInt8)) = false := beq_eq_false_iff_ne.mpr c15
                      have c15b1 : (x5_2.toList != ([] : List UInt8)) = true := bne_iff_ne.mpr c15
                      by_cases c17 : t319.size + 1 ≤ 9223372036854775807
                      · rw [if_pos c17] at H
                        have c17b0 := eq_true c17
                        have c17b1 : decide (t319.size + 1 ≤ 9223372036854775807) = true := decide_eq_true c17
                        try have c17b2 : (9223372036854775807 < t319.size + 1) = False := eq_false (Nat.not_lt.2 c17)
                        by_cases c18 : t319.size + 1 + x5_2.size ≤ 9223372036854775807
                        · rw [if_pos c18] at H
                          have c18b0 := eq_true c18
                          have c18b1 : decide (t319.size + 1 + x5_2.size ≤ 9223372036854775807) = true := decide_eq_true c18
                          try have c18b2 : (9223372036854775807 < t319.size + 1 + x5_2.size) = False := eq_false (Nat.not_lt.2 c18)
                          by_cases c19 : t319.size + 1 + x5_2.size + 1 ≤ 9223372036854775807
                          · rw [if_pos c19] at H
                            have c19b0 := eq_true c19
                            have c19b1 : decide (t319.size + 1 + x5_2.size + 1 ≤ 9223372036854775807) = true := decide_eq_true c19
                            try have c19b2 : (9223372036854775807 < t319.size + 1 + x5_2.size + 1) = False := eq_false (Nat.not_lt.2 c19)
                            simp only [Option.some.injEq, Prod.mk.injEq] at H
                            obtain ⟨rfl, rfl⟩ := H
                            have p11 : 0 ≤ ((ji8) : Int) := of_decide_eq_true (by first | (with_reducible assumption) | assumption)
                            have q11 : (ji8) < (x5_2.size : Int) := of_decide_eq_true (by first | (with_reducible assumption) | assumption)
                            have hx11 := bt_at x5_2 (ji8)
                            replace p11 := eq_true p11
                            replace q11 := eq_true q11
                            go_wp2
                            go_ret2
                            exact ⟨by first | rfl | (simp; done) | (simp only [← hji8] <;> (first | rfl | simp)) | (simp [*]; done), by repeat (first | exact Drawn0.refl _ | apply Drawn0.step)⟩
                          · rw [if_neg c19] at H
                            exact absurd H (by simp)
                        · rw [if_neg c18] at H
                          exact absurd H (by simp)
                      · rw [if_neg c17] at H
                        exact absurd H (by simp)
                · rw [if_neg c10] at H
                  exact absurd H (by simp)
              · rw [if_neg c9] at H
                exact absurd H (by simp)
            · rw [if_neg c7] at H
              have c7b0 : decide (0 < (x5_2.size : Int)) = false := decide_eq_false c7
              have c7b1 : decide (0 < x5_2.size) = false := decide_eq_false (by omega)
              clear c7
              by_cases c20 : x5_2.toList = ([] : List UInt8)
              · rw [if_pos c20] at H
                have c20b0 : (x5_2.toList == ([] : List UInt8)) = true := beq_iff_eq.mpr c20
                have c20b1 : (x5_2.toList != ([] : List UInt8)) = false := bne_eq_false_iff_eq.mpr c20
                clear c20
                by_cases c21 : t319.size + 1 ≤ 9223372036854775807
                · rw [if_pos c21] at H
                  have c21b0 := eq_true c21
                  have c21b1 : decide (t319.size + 1 ≤ 9223372036854775807) = true := decide_eq_true c21
                  try have c21b2 : (9223372036854775807 < t319.size + 1) = False := eq_false (Nat.not_lt.2 c21)
                  simp only [Option.some.injEq, Prod.mk.injEq] at H
                  obtain ⟨rfl, rfl⟩ := H
                  go_wp2
                  go_ret2
                  exact ⟨by first | rfl | (simp; done) | (simp [*]; done), by repeat (first | exact Drawn0.refl _ | apply Drawn0.step)⟩
                · rw [if_neg c21] at H
                  exact absurd H (by simp)
              · rw [if_neg c20] at H
                have c20b0 : (x5_2.toList == ([] : List UInt8)) = false := beq_eq_false_iff_ne.mpr c20
                have c20b1 : (x5_2.toList != ([] : List UInt8)) = true := bne_iff_ne.mpr c20
                by_cases c22 : t319.size + 1 ≤ 9223372036854775807
                · rw [if_pos c22] at H
                  have c22b0 := eq_true c22
                  have c22b1 : decide (t319.size + 1 ≤ 9223372036854775807) = true := decide_eq_true c22
                  try have c22b2 : (9223372036854775807 < t319.size + 1) = False := eq_false (Nat.not_lt.2 c22)
                  by_cases c23 : t319.size + 1 + x5_2.size ≤ 9223372036854775807
                  · rw [if_pos c23] at H
                    have c23b0 := eq_true c23
                    have c23b1 : decide (t319.size + 1 + x5_2.size ≤ 9223372036854775807) = true := decide_eq_true c23
                    try have c23b2 : (9223372036854775807 < t319.size + 1 + x5_2.size) = False := eq_false (Nat.not_lt.2 c23)
                    by_cases c24 : t319.size + 1 + x5_2.size + 1 ≤ 9223372036854775807
                    · rw [if_pos c24] at H
                      have c24b0 := eq_true c24
                      have c24b1 : decide (t319.size + 1 + x5_2.size + 1 ≤ 9223372036854775807) = true := decide_eq_true c24
                      try have c24b2 : (9223372036854775807 < t319.size + 1 + x5_2.size + 1) = False := eq_false (Nat.not_lt.2 c24)
                      simp only [Option.some.injEq, Prod.mk.injEq] at H
                      obtain ⟨rfl, rfl⟩ := H
                      go_wp2
                      go_ret2
                      exact ⟨by first | rfl | (simp; done) | (simp [*]; done), by repeat (first | exact Drawn0.refl _ | apply Drawn0.step)⟩
                    · rw [if_neg c24] at H
                      exact absurd H (by simp)
                  · rw [if_neg c23] at H
                    exact absurd H (by simp)
                · rw [if_neg c22] at H
                  exact absurd H (by simp)

end Go.Proofs.YtmcebojboffdoaaGreatDoor.P
