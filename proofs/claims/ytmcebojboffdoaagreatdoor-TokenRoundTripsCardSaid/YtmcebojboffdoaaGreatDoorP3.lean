-- PRINTED by print.py (a twelfth state) out of the translation. Not trusted: Lean checks it.
import Derived.Test.YtmcebojboffdoaaGreatDoorP0
import Derived.Test.YtmcebojboffdoaaGreatDoorP2
import Derived.Test.YtmcebojboffdoaaGreatDoorExt
import Derived.Test.YtmcebojboffdoaaGreatDoorGl
namespace Go.Proofs.YtmcebojboffdoaaGreatDoor.P
open Go.RowKit Go.Proofs.YtmcebojboffdoaaGreatDoorW.PrintWords Go.Proofs.YtmcebojboffdoaaGreatDoorW.PrintLast Go.Proofs.YtmcebojboffdoaaGreatDoorW.PrintMore
attribute [local go_sem] max2_int min2_int max_two min_two max_three min_three max_four min_four   -- for this text's walks alone
set_option linter.unusedVariables false
set_option linter.unusedSimpArgs false

/-! ### token_words: function 25 -/
def token_words.f  : Option (List ByteArray) := (strings_Fields.f (⟨#[112, 114, 111, 100, 117, 99, 116, 32, 99, 117, 114, 114, 101, 110, 99, 121, 32, 99, 97, 108, 101, 110, 100, 97, 114, 32, 102, 114, 111, 109, 32, 101, 118, 101, 114, 121, 32, 111, 118, 101, 114, 100, 114, 97, 102, 116, 32, 116, 97, 120, 32, 99, 114, 101, 100, 105, 116, 32, 100, 101, 98, 105, 116, 32, 109, 97, 114, 103, 105, 110, 97, 108, 32, 119, 104, 111, 108, 101, 32, 97, 99, 116, 51, 54, 48, 32, 97, 99, 116, 51, 54, 53, 32, 97, 99, 116, 117, 97, 108, 32, 116, 104, 105, 114, 116, 121, 32, 100, 111, 119, 110, 32, 117, 112, 32, 102, 108, 111, 111, 114, 32, 99, 101, 105, 108, 32, 104, 97, 108, 102, 95, 117, 112, 32, 104, 97, 108, 102, 95, 101, 118, 101, 110, 32, 107, 101, 101, 112, 32, 100, 114, 111, 112, 32, 102, 101, 101, 32, 108, 105, 109, 105, 116, 32, 119, 104, 101, 110, 32, 97, 109, 111, 117, 110, 116, 95, 111, 102, 32, 115, 105, 110, 103, 108, 101, 32, 100, 97, 105, 108, 121, 32, 109, 111, 110, 116, 104, 108, 121, 32, 109, 111, 110, 116, 104, 32, 114, 101, 116, 117, 114, 110, 32, 99, 108, 111, 115, 101, 32, 101, 118, 101, 110, 116, 32, 105, 102, 32, 116, 104, 101, 110, 32, 101, 108, 115, 101, 32, 97, 110, 100, 32, 111, 114, 32, 110, 111, 116, 32, 109, 105, 110, 32, 109, 97, 120]⟩ : ByteArray)).bind fun t103 => (some t103)
set_option maxHeartbeats 8000000 in
set_option maxRecDepth 100000 in
theorem token_words.calls  (r : List ByteArray) (w : World) (hG : Gl w) (h : token_words.f  = some r) :
    Calls Tryz.prog 25 #[] w fun e w' => ∃ v0_ : Value, e = .returned (v0_) ∧ Kd.R Kd.string 9 w' w.heap.size (fun _ => True) v0_ r ∧ Below w.heap.size w w' := by
  have HG := Aside0.mk hG
  clear hG
  have HB := Aside0.mk (Below.refl w.heap.size w)
  have H : ((strings_Fields.f (⟨#[112, 114, 111, 100, 117, 99, 116, 32, 99, 117, 114, 114, 101, 110, 99, 121, 32, 99, 97, 108, 101, 110, 100, 97, 114, 32, 102, 114, 111, 109, 32, 101, 118, 101, 114, 121, 32, 111, 118, 101, 114, 100, 114, 97, 102, 116, 32, 116, 97, 120, 32, 99, 114, 101, 100, 105, 116, 32, 100, 101, 98, 105, 116, 32, 109, 97, 114, 103, 105, 110, 97, 108, 32, 119, 104, 111, 108, 101, 32, 97, 99, 116, 51, 54, 48, 32, 97, 99, 116, 51, 54, 53, 32, 97, 99, 116, 117, 97, 108, 32, 116, 104, 105, 114, 116, 121, 32, 100, 111, 119, 110, 32, 117, 112, 32, 102, 108, 111, 111, 114, 32, 99, 101, 105, 108, 32, 104, 97, 108, 102, 95, 117, 112, 32, 104, 97, 108, 102, 95, 101, 118, 101, 110, 32, 107, 101, 101, 112, 32, 100, 114, 111, 112, 32, 102, 101, 101, 32, 108, 105, 109, 105, 116, 32, 119, 104, 101, 110, 32, 97, 109, 111, 117, 110, 116, 95, 111, 102, 32, 115, 105, 110, 103, 108, 101, 32, 100, 97, 105, 108, 121, 32, 109, 111, 110, 116, 104, 108, 121, 32, 109, 111, 110, 116, 104, 32, 114, 101, 116, 117, 114, 110, 32, 99, 108, 111, 115, 101, 32, 101, 118, 101, 110, 116, 32, 105, 102, 32, 116, 104, 101, 110, 32, 101, 108, 115, 101, 32, 97, 110, 100, 32, 111, 114, 32, 110, 111, 116, 32, 109, 105, 110, 32, 109, 97, 120]⟩ : ByteArray)).bind fun t103 => (some t103)) = some r := h
  clear h
  replace H := Option.bind_eq_some_iff.mp H
  obtain ⟨t103, A10, H⟩ := H
  replace H : (some t103) = some r := H
  have A1 := Aside0.mk A10
  clear A10
  obtain rfl := Option.some.inj H
  go_enter Tryz.func25, Tryz.ntmps25
  go_wp2_with (first | ((with_reducible refine gate_callee (f := 50) rfl ?_); refine goesL_ (some 1) rfl rfl Tryz.func50 (by kernel_rfl) rfl #[.string (⟨#[112, 114, 111, 100, 117, 99, 116, 32, 99, 117, 114, 114, 101, 110, 99, 121, 32, 99, 97, 108, 101, 110, 100, 97, 114, 32, 102, 114, 111, 109, 32, 101, 118, 101, 114, 121, 32, 111, 118, 101, 114, 100, 114, 97, 102, 116, 32, 116, 97, 120, 32, 99, 114, 101, 100, 105, 116, 32, 100, 101, 98, 105, 116, 32, 109, 97, 114, 103, 105, 110, 97, 108, 32, 119, 104, 111, 108, 101, 32, 97, 99, 116, 51, 54, 48, 32, 97, 99, 116, 51, 54, 53, 32, 97, 99, 116, 117, 97, 108, 32, 116, 104, 105, 114, 116, 121, 32, 100, 111, 119, 110, 32, 117, 112, 32, 102, 108, 111, 111, 114, 32, 99, 101, 105, 108, 32, 104, 97, 108, 102, 95, 117, 112, 32, 104, 97, 108, 102, 95, 101, 118, 101, 110, 32, 107, 101, 101, 112, 32, 100, 114, 111, 112, 32, 102, 101, 101, 32, 108, 105, 109, 105, 116, 32, 119, 104, 101, 110, 32, 97, 109, 111, 117, 110, 116, 95, 111, 102, 32, 115, 105, 110, 103, 108, 101, 32, 100, 97, 105, 108, 121, 32, 109, 111, 110, 116, 104, 108, 121, 32, 109, 111, 110, 116, 104, 32, 114, 101, 116, 117, 114, 110, 32, 99, 108, 111, 115, 101, 32, 101, 118, 101, 110, 116, 32, 105, 102, 32, 116, 104, 101, 110, 32, 101, 108, 115, 101, 32, 97, 110, 100, 32, 111, 114, 32, 110, 111, 116, 32, 109, 105, 110, 32, 109, 97, 120]⟩ : ByteArray)] rfl (by (try simp only [List.map_toArray, List.map_cons, List.map_nil]); first | done | rfl | (simp only [List.length_drop, List.length_take]; rfl)) ?_; (with_reducible refine (strings_Fields.calls (⟨#[112, 114, 111, 100, 117, 99, 116, 32, 99, 117, 114, 114, 101, 110, 99, 121, 32, 99, 97, 108, 101, 110, 100, 97, 114, 32, 102, 114, 111, 109, 32, 101, 118, 101, 114, 121, 32, 111, 118, 101, 114, 100, 114, 97, 102, 116, 32, 116, 97, 120, 32, 99, 114, 101, 100, 105, 116, 32, 100, 101, 98, 105, 116, 32, 109, 97, 114, 103, 105, 110, 97, 108, 32, 119, 104, 111, 108, 101, 32, 97, 99, 116, 51, 54, 48, 32, 97, 99, 116, 51, 54, 53, 32, 97, 99, 116, 117, 97, 108, 32, 116, 104, 105, 114, 116, 121, 32, 100, 111, 119, 110, 32, 117, 112, 32, 102, 108, 111, 111, 114, 32, 99, 101, 105, 108, 32, 104, 97, 108, 102, 95, 117, 112, 32, 104, 97, 108, 102, 95, 101, 118, 101, 110, 32, 107, 101, 101, 112, 32, 100, 114, 111, 112, 32, 102, 101, 101, 32, 108, 105, 109, 105, 116, 32, 119, 104, 101, 110, 32, 97, 109, 111, 117, 110, 116, 95, 111, 102, 32, 115, 105, 110, 103, 108, 101, 32, 100, 97, 105, 108, 121, 32, 109, 111, 110, 116, 104, 108, 121, 32, 109, 111, 110, 116, 104, 32, 114, 101, 116, 117, 114, 110, 32, 99, 108, 111, 115, 101, 32, 101, 118, 101, 110, 116, 32, 105, 102, 32, 116, 104, 101, 110, 32, 101, 108, 115, 101, 32, 97, 110, 100, 32, 111, 114, 32, 110, 111, 116, 32, 109, 105, 110, 32, 109, 97, 120]⟩ : ByteArray) t103 _ ?side1 A1.out).mono ?_); (case side1 => exact Gl.step HG.out (by repeat (first | (with_reducible first | exact HB.out | apply below_alloc | apply pw_below_drewN | apply below_drew1) | exact HB.out))); rintro e w2 ⟨v104, rfl, ho0, hb⟩; refine ⟨_, rfl, ?_⟩; have n0_ := Aside0.mk (Kd.R_lower ho0 (below_size (by repeat (first | (with_reducible first | exact HB.out | apply below_alloc | apply pw_below_drewN | apply below_drew1) | exact HB.out)))); have n1_ := Aside0.mk (below_step (by repeat (first | (with_reducible first | exact HB.out | apply below_alloc | apply pw_below_drewN | apply below_drew1) | exact HB.out)) hb); clear HB; have HO105 := n0_; have HB := n1_; clear n0_ n1_; (try clear hb); (try clear hb2); (try clear hk); (try clear hi); (try clear ho0)))
  go_ret
  exact ⟨_, by first | rfl | (simp [errW_none, errW_some] <;> rfl) | (simp [*, errW_none, errW_some] <;> rfl), by (with_reducible repeat (first | apply Kd.R_alloc | apply Kd.R_drewN | apply Kd.R_drew)); exact HO105.out, by repeat (first | (with_reducible first | exact HB.out | apply below_alloc | apply pw_below_drewN | apply below_drew1) | exact HB.out)⟩

/-! ### token_Word: function 12 -/
def token_Word.f (k : Nat) (a0 : ByteArray) : Option (Bool) := (token_words.f).bind fun t106 => ((slices_Contains_string_string.f k t106 a0).bind fun t109 => (some t109))
theorem token_Word.mono : ∀ a0 k, LeO (token_Word.f k a0) (token_Word.f (k + 1) a0) := by
  intro a0 k
  unfold token_Word.f
  repeat' first
      | (with_reducible exact slices_Contains_string_string.mono _ _ _)
      | (with_reducible exact LeO.refl _)
      | (with_reducible exact LeO.none _)
      | (with_reducible refine LeO.ite ?_ ?_)
      | (with_reducible refine LeO.bind ?_ (fun _ => ?_))
      | exact slices_Contains_string_string.mono _ _ _
      | exact LeO.none _
      | refine LeO.ite ?_ ?_
      | refine LeO.bind ?_ (fun _ => ?_)
set_option maxHeartbeats 8000000 in
set_option maxRecDepth 100000 in
theorem token_Word.calls (k : Nat) (a0 : ByteArray) (r : Bool) (w : World) (hG : Gl w) (h : token_Word.f k a0 = some r) :
    Calls Tryz.prog 12 #[.string a0] w fun e w' => e = .returned (.bool r) ∧ Below w.heap.size w w' := by
  have HG := Aside0.mk hG
  clear hG
  have HB := Aside0.mk (Below.refl w.heap.size w)
  have H : ((token_words.f).bind fun t106 => ((slices_Contains_string_string.f k t106 a0).bind fun t109 => (some t109))) = some r := h
  clear h
  replace H := Option.bind_eq_some_iff.mp H
  obtain ⟨t106, A20, H⟩ := H
  replace H : ((slices_Contains_string_string.f k t106 a0).bind fun t109 => (some t109)) = some r := H
  have A2 := Aside0.mk A20
  clear A20
  replace H := Option.bind_eq_some_iff.mp H
  obtain ⟨t109, A30, H⟩ := H
  replace H : (some t109) = some r := H
  have A3 := Aside0.mk A30
  clear A30
  obtain rfl := Option.some.inj H
  go_enter Tryz.func12, Tryz.ntmps12
  go_wp2_with (first | ((with_reducible refine gate_callee (f := 25) rfl ?_); refine goesL_ (some 3) rfl rfl Tryz.func25 (by kernel_rfl) rfl #[] rfl (by (try simp only [List.map_toArray, List.map_cons, List.map_nil]); first | done | rfl | (simp only [List.length_drop, List.length_take]; rfl)) ?_; (with_reducible refine (token_words.calls  t106 _ ?side1 A2.out).mono ?_); (case side1 => exact Gl.step HG.out (by repeat (first | (with_reducible first | exact HB.out | apply below_alloc | apply pw_below_drewN | apply below_drew1) | exact HB.out))); rintro e w4 ⟨v107, rfl, ho0, hb⟩; refine ⟨_, rfl, ?_⟩; have n0_ := Aside0.mk (Kd.R_lower ho0 (below_size (by repeat (first | (with_reducible first | exact HB.out | apply below_alloc | apply pw_below_drewN | apply below_drew1) | exact HB.out)))); have n1_ := Aside0.mk (below_step (by repeat (first | (with_reducible first | exact HB.out | apply below_alloc | apply pw_below_drewN | apply below_drew1) | exact HB.out)) hb); clear HB; have HO108 := n0_; have HB := n1_; clear n0_ n1_; (try clear hb); (try clear hb2); (try clear hk); (try clear hi); (try clear ho0); obtain ⟨Ao5, co5, eo5⟩ := Kd.R_slice HO108.out; subst eo5) | ((with_reducible refine gate_callee (f := 24) rfl ?_); refine goesL_ (some 5) rfl rfl Tryz.func24 (by kernel_rfl) rfl #[.slice Ao5 t106.length co5, .string a0] rfl (by (try simp only [List.map_toArray, List.map_cons, List.map_nil]); first | done | rfl | (simp only [List.length_drop, List.length_take]; rfl)) ?_; (with_reducible refine (slices_Contains_string_string.calls k _ _ t106 a0 t109 _ ?side1 ?side2 A3.out).mono ?_); (case side1 => repeat (first | exact (Kd.R_reads' HO108.out).2.2 | (with_reducible refine Kd.C_alloc ?_ _) | (with_reducible refine Kd.C_drewN ?_ _) | (with_reducible refine Kd.C_drew ?_))); (case side2 => exact (Kd.R_reads' HO108.out).2.1); rintro e w' ⟨rfl, ⟨nd, rfl⟩⟩; refine ⟨_, rfl, ?_⟩))
  go_ret
  exact ⟨by first | rfl | (simp [errW_none, errW_some] <;> rfl) | (simp [*, errW_none, errW_some] <;> rfl), by repeat (first | (with_reducible first | exact HB.out | apply below_alloc | apply pw_below_drewN | apply below_drew1) | exact HB.out)⟩

end Go.Proofs.YtmcebojboffdoaaGreatDoor.P
