-- PRINTED by print.py (a twelfth state) out of the translation. Not trusted: Lean checks it.
import Derived.Test.YtmcebojboffdoaaGreatDoorP0
import Derived.Test.YtmcebojboffdoaaGreatDoorP7
import Derived.Test.YtmcebojboffdoaaGreatDoorP12
import Derived.Test.YtmcebojboffdoaaGreatDoorP13
import Derived.Test.YtmcebojboffdoaaGreatDoorP31
import Derived.Test.YtmcebojboffdoaaGreatDoorGl
namespace Go.Proofs.YtmcebojboffdoaaGreatDoor.P
open Go.RowKit Go.Proofs.YtmcebojboffdoaaGreatDoorW.PrintWords Go.Proofs.YtmcebojboffdoaaGreatDoorW.PrintLast Go.Proofs.YtmcebojboffdoaaGreatDoorW.PrintMore
attribute [local go_sem] max2_int min2_int max_two min_two max_three min_three max_four min_four   -- for this text's walks alone
set_option linter.unusedVariables false
set_option linter.unusedSimpArgs false

/-! ### corebanklaw09_TokenPercents: function 8 -/
def corebanklaw09_TokenPercents.j0 : Nat → Int → ByteArray → Int → Bool → Option (Bool)
  | 0, _, _, _, _ => none
  | k + 1, x0, x3, x4, x26 => if x26 = true then (some false) else ((token_Rate.f k x3).bind fun bt326 => (if x4 = 0 then (if bt326.1 = x0 then (if bt326.2 = 0 then ((corebanklaw09_lives.f k).bind fun t328 => (some t328)) else (some false)) else (some false)) else ((corebanklaw09_lives.f k).bind fun t329 => (some t329))))
def corebanklaw09_TokenPercents.f (k : Nat) (a0 : Int) : Option (Bool) := (token_Percent.f k a0).bind fun bt322 => ((corebankref09_Percent.f k a0).bind fun bt324 => (if bt322.1.toList = bt324.1.toList then (corebanklaw09_TokenPercents.j0 k a0 bt322.1 bt322.2 (bt322.2 != bt324.2)) else (corebanklaw09_TokenPercents.j0 k a0 bt322.1 bt322.2 true)))
theorem corebanklaw09_TokenPercents.mono_l : ∀ k, (∀ y0 y1 y2 y3, LeO (corebanklaw09_TokenPercents.j0 k y0 y1 y2 y3) (corebanklaw09_TokenPercents.j0 (k + 1) y0 y1 y2 y3))
  | 0 => fun _ _ _ _ r h => by simp [corebanklaw09_TokenPercents.j0] at h
  | k + 1 => by
    have ih0 := corebanklaw09_TokenPercents.mono_l k
    · intro y0 y1 y2 y3
      unfold corebanklaw09_TokenPercents.j0
      repeat' first
      | (with_reducible exact ih0 _ _ _ _)
      | (with_reducible exact corebanklaw09_lives.mono _)
      | (with_reducible exact corebankref09_Percent.mono _ _)
      | (with_reducible exact token_Percent.mono _ _)
      | (with_reducible exact token_Rate.mono _ _)
      | (with_reducible exact LeO.refl _)
      | (with_reducible exact LeO.none _)
      | (with_reducible refine LeO.ite ?_ ?_)
      | (with_reducible refine LeO.bind ?_ (fun _ => ?_))
      | exact ih0 _ _ _ _
      | exact corebanklaw09_lives.mono _
      | exact corebankref09_Percent.mono _ _
      | exact token_Percent.mono _ _
      | exact token_Rate.mono _ _
      | exact LeO.none _
      | refine LeO.ite ?_ ?_
      | refine LeO.bind ?_ (fun _ => ?_)
theorem corebanklaw09_TokenPercents.mono : ∀ a0 k, LeO (corebanklaw09_TokenPercents.f k a0) (corebanklaw09_TokenPercents.f (k + 1) a0) := by
  intro a0 k
  have ih0 := corebanklaw09_TokenPercents.mono_l k
  unfold corebanklaw09_TokenPercents.f
  repeat' first
      | (with_reducible exact ih0 _ _ _ _)
      | (with_reducible exact corebanklaw09_lives.mono _)
      | (with_reducible exact corebankref09_Percent.mono _ _)
      | (with_reducible exact token_Percent.mono _ _)
      | (with_reducible exact token_Rate.mono _ _)
      | (with_reducible exact LeO.refl _)
      | (with_reducible exact LeO.none _)
      | (with_reducible refine LeO.ite ?_ ?_)
      | (with_reducible refine LeO.bind ?_ (fun _ => ?_))
      | exact ih0 _ _ _ _
      | exact corebanklaw09_lives.mono _
      | exact corebankref09_Percent.mono _ _
      | exact token_Percent.mono _ _
      | exact token_Rate.mono _ _
      | exact LeO.none _
      | refine LeO.ite ?_ ?_
      | refine LeO.bind ?_ (fun _ => ?_)
set_option maxHeartbeats 8000000 in
set_option maxRecDepth 100000 in
theorem corebanklaw09_TokenPercents.calls (k : Nat) (a0 : Int) (r : Bool) (w : World) (hG : Gl w) (h : corebanklaw09_TokenPercents.f k a0 = some r) :
    Calls Tryz.prog 8 #[.int .i64 a0] w fun e w' => e = .returned (.bool r) ∧ Below w.heap.size w w' := by
  have HG := Aside0.mk hG
  clear hG
  have HB := Aside0.mk (Below.refl w.heap.size w)
  have H : ((token_Percent.f k a0).bind fun bt322 => ((corebankref09_Percent.f k a0).bind fun bt324 => (if bt322.1.toList = bt324.1.toList then (corebanklaw09_TokenPercents.j0 k a0 bt322.1 bt322.2 (bt322.2 != bt324.2)) else (corebanklaw09_TokenPercents.j0 k a0 bt322.1 bt322.2 true)))) = some r := h
  clear h
  replace H := Option.bind_eq_some_iff.mp H
  obtain ⟨⟨t322, t323⟩, A20, H⟩ := H
  replace H : ((corebankref09_Percent.f k a0).bind fun bt324 => (if t322.toList = bt324.1.toList then (corebanklaw09_TokenPercents.j0 k a0 t322 t323 (t323 != bt324.2)) else (corebanklaw09_TokenPercents.j0 k a0 t322 t323 true))) = some r := H
  have A2 := Aside0.mk A20
  clear A20
  replace H := Option.bind_eq_some_iff.mp H
  obtain ⟨⟨t324, t325⟩, A30, H⟩ := H
  replace H : (if t322.toList = t324.toList then (corebanklaw09_TokenPercents.j0 k a0 t322 t323 (t323 != t325)) else (corebanklaw09_TokenPercents.j0 k a0 t322 t323 true)) = some r := H
  have A3 := Aside0.mk A30
  clear A30
  have HC4 := Aside0.mk H
  clear H
  go_enter Tryz.func8, Tryz.ntmps8
  go_upto_region 3 with (first | ((with_reducible refine gate_callee (f := 22) rfl ?_); refine goesL_ (some 11) rfl rfl Tryz.func22 (by kernel_rfl) rfl #[.int .i64 a0] rfl (by (try simp only [List.map_toArray, List.map_cons, List.map_nil]); first | done | rfl | (simp only [List.length_drop, List.length_take]; rfl)) ?_; (with_reducible refine (token_Percent.calls k a0 t322 t323 _ ?side1 A2.out).mono ?_); (case side1 => exact Gl.step HG.out (by repeat (first | (with_reducible first | exact HB.out | apply below_alloc | apply pw_below_drewN | apply below_drew1) | exact HB.out))); rintro e w5 ⟨rfl, hb⟩; refine ⟨_, rfl, ?_⟩; have n0_ := Aside0.mk (below_step (by repeat (first | (with_reducible first | exact HB.out | apply below_alloc | apply pw_below_drewN | apply below_drew1) | exact HB.out)) hb); clear HB; have HB := n0_; clear n0_; (try clear hb); (try clear hb2); (try clear hk); (try clear hi)) | ((with_reducible refine gate_callee (f := 23) rfl ?_); refine goesL_ (some 16) rfl rfl Tryz.func23 (by kernel_rfl) rfl #[.int .i64 a0] rfl (by (try simp only [List.map_toArray, List.map_cons, List.map_nil]); first | done | rfl | (simp only [List.length_drop, List.length_take]; rfl)) ?_; (with_reducible refine (corebankref09_Percent.calls k a0 t324 t325 _ A3.out).mono ?_); rintro e w' ⟨rfl, ⟨nd, rfl⟩⟩; refine ⟨_, rfl, ?_⟩))
  (try simp only [Act.put, List.setIfInBounds_toArray, List.set_cons_zero, List.set_cons_succ])
  go_cut [26] (fun v26 wc => ∃ (kq : Nat) (x26_3 : Bool), v26 = .bool x26_3 ∧ Aside0 (corebanklaw09_TokenPercents.j0 kq a0 t322 t323 x26_3 = some r) ∧ Aside0 (kq ≤ k) ∧ Aside0 (Below w.heap.size w wc))
  case first =>
    have H := HC4.out
    clear HC4
    by_cases c6 : t322.toList = t324.toList
    · rw [if_pos c6] at H
      have c6b0 : (t322.toList == t324.toList) = true := beq_iff_eq.mpr c6
      have c6b1 : (t322.toList != t324.toList) = false := bne_eq_false_iff_eq.mpr c6
      clear c6
      (first | rw [c6b0] | (simp only [i64_w, i32_w]; rw [c6b0]) | skip)
      have H' := Aside0.mk H
      clear H
      go_wp2
      go_meet
      case rel => exact ⟨_, ((t323 != t325)), (by first | rfl | (simp; done) | (simp [*]; done)), H', ⟨by first | omega | exact Nat.le_refl _⟩, ⟨by repeat (first | (with_reducible first | exact HB.out | apply below_alloc | apply pw_below_drewN | apply below_drew1) | exact HB.out)⟩⟩
    · rw [if_neg c6] at H
      have c6b0 : (t322.toList == t324.toList) = false := beq_eq_false_iff_ne.mpr c6
      have c6b1 : (t322.toList != t324.toList) = true := bne_iff_ne.mpr c6
      (first | rw [c6b0] | (simp only [i64_w, i32_w]; rw [c6b0]) | skip)
      have H' := Aside0.mk H
      clear H
      go_wp2
      go_meet
      case rel => exact ⟨_, (true), (by first | rfl | (simp; done) | (simp [*]; done)), H', ⟨by first | omega | exact Nat.le_refl _⟩, ⟨by repeat (first | (with_reducible first | exact HB.out | apply below_alloc | apply pw_below_drewN | apply below_drew1) | exact HB.out)⟩⟩
  case rest =>
    clear HC4
    try clear c2
    try clear p2
    try clear c6
    try clear c6b0
    try clear c6b1
    obtain ⟨kq, x26_3, rfl, HA, HJ3, HB⟩ := hcut
    cases kq with
    | zero => exact absurd HA.out (by simp [corebanklaw09_TokenPercents.j0])
    | succ kj3 =>
      have H := HA.out
      clear HA
      simp only [corebanklaw09_TokenPercents.j0] at H
      by_cases c7 : x26_3 = true
      · subst c7
        have H1 : (some false) = some r := by rw [if_pos rfl] at H; exact H
        clear H
        have H := H1
        clear H1
        obtain rfl := Option.some.inj H
        go_wp2
        go_ret
        exact ⟨by first | rfl | (simp [errW_none, errW_some] <;> rfl) | (simp [*, errW_none, errW_some] <;> rfl), by repeat (first | (with_reducible first | exact HB.out | apply below_alloc | apply pw_below_drewN | apply below_drew1) | exact HB.out)⟩
      · replace c7 := Bool.eq_false_iff.mpr c7
        subst c7
        have H1 : ((token_Rate.f kj3 t322).bind fun bt326 => (if t323 = 0 then (if bt326.1 = a0 then (if bt326.2 = 0 then ((corebanklaw09_lives.f kj3).bind fun t328 => (some t328)) else (some false)) else (some false)) else ((corebanklaw09_lives.f kj3).bind fun t329 => (some t329)))) = some r := by rw [if_neg (show ¬ (false = true) by decide)] at H; exact H
        clear H
        have H := H1
        clear H1
        replace H := Option.bind_eq_some_iff.mp H
        obtain ⟨⟨t326, t327⟩, A80, H⟩ := H
        replace H : (if t323 = 0 then (if t326 = a0 then (if t327 = 0 then ((corebanklaw09_lives.f kj3).bind fun t328 => (some t328)) else (some false)) else (some false)) else ((corebanklaw09_lives.f kj3).bind fun t329 => (some t329))) = some r := H
        have A8 := Aside0.mk A80
        clear A80
        by_cases c9 : t323 = 0
        · rw [if_pos c9] at H
          have c9b0 : (t323 == 0) = true := beq_iff_eq.mpr c9
          have c9b1 : (t323 != 0) = false := bne_eq_false_iff_eq.mpr c9
          clear c9
          by_cases c10 : t326 = a0
          · rw [if_pos c10] at H
            have c10b0 : (t326 == a0) = true := beq_iff_eq.mpr c10
            have c10b1 : (t326 != a0) = false := bne_eq_false_iff_eq.mpr c10
            clear c10
            by_cases c11 : t327 = 0
            · rw [if_pos c11] at H
              have c11b0 : (t327 == 0) = true := beq_iff_eq.mpr c11
              have c11b1 : (t327 != 0) = false := bne_eq_false_iff_eq.mpr c11
              clear c11
              replace H := Option.bind_eq_some_iff.mp H
              obtain ⟨t328, A120, H⟩ := H
              replace H : (some t328) = some r := H
              have A12 := Aside0.mk A120
              clear A120
              obtain rfl := Option.some.inj H
              go_wp2_with (first | ((with_reducible refine gate_callee (f := 20) rfl ?_); refine goesL_ (some 29) rfl rfl Tryz.func20 (by kernel_rfl) rfl #[.string t322] rfl (by (try simp only [List.map_toArray, List.map_cons, List.map_nil]); first | done | rfl | (simp only [List.length_drop, List.length_take]; rfl)) ?_; (with_reducible refine (token_Rate.calls kj3 t322 t326 t327 _ ?side1 A8.out).mono ?_); (case side1 => exact Gl.step HG.out (by repeat (first | (with_reducible first | exact HB.out | apply below_alloc | apply pw_below_drewN | apply below_drew1) | exact HB.out))); rintro e w13 ⟨rfl, hb⟩; refine ⟨_, rfl, ?_⟩; have n0_ := Aside0.mk (below_step (by repeat (first | (with_reducible first | exact HB.out | apply below_alloc | apply pw_below_drewN | apply below_drew1) | exact HB.out)) hb); clear HB; have HB := n0_; clear n0_; (try clear hb); (try clear hb2); (try clear hk); (try clear hi)) | (go_at_call 10; (with_reducible refine (corebanklaw09_lives.calls kj3  t328 _ ?side1 A12.out).mono ?_); (case side1 => exact Gl.step HG.out (by repeat (first | (with_reducible first | exact HB.out | apply below_alloc | apply pw_below_drewN | apply below_drew1) | exact HB.out))); rintro e w14 ⟨rfl, hb⟩; have n0_ := Aside0.mk (below_step (by repeat (first | (with_reducible first | exact HB.out | apply below_alloc | apply pw_below_drewN | apply below_drew1) | exact HB.out)) hb); clear HB; have HB := n0_; clear n0_; (try clear hb); (try clear hb2); (try clear hk); (try clear hi)))
              go_ret
              exact ⟨by first | rfl | (simp [errW_none, errW_some] <;> rfl) | (simp [*, errW_none, errW_some] <;> rfl), by repeat (first | (with_reducible first | exact HB.out | apply below_alloc | apply pw_below_drewN | apply below_drew1) | exact HB.out)⟩
            · rw [if_neg c11] at H
              have c11b0 : (t327 == 0) = false := beq_eq_false_iff_ne.mpr c11
              have c11b1 : (t327 != 0) = true := bne_iff_ne.mpr c11
              obtain rfl := Option.some.inj H
              go_wp2_with (first | ((with_reducible refine gate_callee (f := 20) rfl ?_); refine goesL_ (some 29) rfl rfl Tryz.func20 (by kernel_rfl) rfl #[.string t322] rfl (by (try simp only [List.map_toArray, List.map_cons, List.map_nil]); first | done | rfl | (simp only [List.length_drop, List.length_take]; rfl)) ?_; (with_reducible refine (token_Rate.calls kj3 t322 t326 t327 _ ?side1 A8.out).mono ?_); (case side1 => exact Gl.step HG.out (by repeat (first | (with_reducible first | exact HB.out | apply below_alloc | apply pw_below_drewN | apply below_drew1) | exact HB.out))); rintro e w15 ⟨rfl, hb⟩; refine ⟨_, rfl, ?_⟩; have n0_ := Aside0.mk (below_step (by repeat (first | (with_reducible first | exact HB.out | apply below_alloc | apply pw_below_drewN | apply below_drew1) | exact HB.out)) hb); clear HB; have HB := n0_; clear n0_; (try clear hb); (try clear hb2); (try clear hk); (try clear hi)))
              go_ret
              exact ⟨by first | rfl | (simp [errW_none, errW_some] <;> rfl) | (simp [*, errW_none, errW_some] <;> rfl), by repeat (first | (with_reducible first | exact HB.out | apply below_alloc | apply pw_below_drewN | apply below_drew1) | exact HB.out)⟩
          · rw [if_neg c10] at H
            have c10b0 : (t326 == a0) = false := beq_eq_false_iff_ne.mpr c10
            have c10b1 : (t326 != a0) = true := bne_iff_ne.mpr c10
            obtain rfl := Option.some.inj H
            go_wp2_with (first | ((with_reducible refine gate_callee (f := 20) rfl ?_); refine goesL_ (some 29) rfl rfl Tryz.func20 (by kernel_rfl) rfl #[.string t322] rfl (by (try simp only [List.map_toArray, List.map_cons, List.map_nil]); first | done | rfl | (simp only [List.length_drop, List.length_take]; rfl)) ?_; (with_reducible refine (token_Rate.calls kj3 t322 t326 t327 _ ?side1 A8.out).mono ?_); (case side1 => exact Gl.step HG.out (by repeat (first | (with_reducible first | exact HB.out | apply below_alloc | apply pw_below_drewN | apply below_drew1) | exact HB.out))); rintro e w16 ⟨rfl, hb⟩; refine ⟨_, rfl, ?_⟩; have n0_ := Aside0.mk (below_step (by repeat (first | (with_reducible first | exact HB.out | apply below_alloc | apply pw_below_drewN | apply below_drew1) | exact HB.out)) hb); clear HB; have HB := n0_; clear n0_; (try clear hb); (try clear hb2); (try clear hk); (try clear hi)))
            go_ret
            exact ⟨by first | rfl | (simp [errW_none, errW_some] <;> rfl) | (simp [*, errW_none, errW_some] <;> rfl), by repeat (first | (with_reducible first | exact HB.out | apply below_alloc | apply pw_below_drewN | apply below_drew1) | exact HB.out)⟩
        · rw [if_neg c9] at H
          have c9b0 : (t323 == 0) = false := beq_eq_false_iff_ne.mpr c9
          have c9b1 : (t323 != 0) = true := bne_iff_ne.mpr c9
          replace H := Option.bind_eq_some_iff.mp H
          obtain ⟨t329, A170, H⟩ := H
          replace H : (some t329) = some r := H
          have A17 := Aside0.mk A170
          clear A170
          obtain rfl := Option.some.inj H
          go_wp2_with (first | ((with_reducible refine gate_callee (f := 20) rfl ?_); refine goesL_ (some 29) rfl rfl Tryz.func20 (by kernel_rfl) rfl #[.string t322] rfl (by (try simp only [List.map_toArray, List.map_cons, List.map_nil]); first | done | rfl | (simp only [List.length_drop, List.length_take]; rfl)) ?_; (with_reducible refine (token_Rate.calls kj3 t322 t326 t327 _ ?side1 A8.out).mono ?_); (case side1 => exact Gl.step HG.out (by repeat (first | (with_reducible first | exact HB.out | apply below_alloc | apply pw_below_drewN | apply below_drew1) | exact HB.out))); rintro e w18 ⟨rfl, hb⟩; refine ⟨_, rfl, ?_⟩; have n0_ := Aside0.mk (below_step (by repeat (first | (with_reducible first | exact HB.out | apply below_alloc | apply pw_below_drewN | apply below_drew1) | exact HB.out)) hb); clear HB; have HB := n0_; clear n0_; (try clear hb); (try clear hb2); (try clear hk); (try clear hi)) | (go_at_call 10; (with_reducible refine (corebanklaw09_lives.calls kj3  t329 _ ?side1 A17.out).mono ?_); (case side1 => exact Gl.step HG.out (by repeat (first | (with_reducible first | exact HB.out | apply below_alloc | apply pw_below_drewN | apply below_drew1) | exact HB.out))); rintro e w19 ⟨rfl, hb⟩; have n0_ := Aside0.mk (below_step (by repeat (first | (with_reducible first | exact HB.out | apply below_alloc | apply pw_below_drewN | apply below_drew1) | exact HB.out)) hb); clear HB; have HB := n0_; clear n0_; (try clear hb); (try clear hb2); (try clear hk); (try clear hi)))
          go_ret
          exact ⟨by first | rfl | (simp [errW_none, errW_some] <;> rfl) | (simp [*, errW_none, errW_some] <;> rfl), by repeat (first | (with_reducible first | exact HB.out | apply below_alloc | apply pw_below_drewN | apply below_drew1) | exact HB.out)⟩

end Go.Proofs.YtmcebojboffdoaaGreatDoor.P
