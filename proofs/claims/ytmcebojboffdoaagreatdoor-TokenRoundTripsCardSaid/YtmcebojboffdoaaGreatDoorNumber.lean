/-
  token.number: the token that is a number, or a percentage. Conditions: what the library's variables hold ('Gl').
-/
import Derived.Test.YtmcebojboffdoaaGreatDoorP6
import Derived.Test.YtmcebojboffdoaaGreatDoorP7
import Derived.Test.YtmcebojboffdoaaGreatDoorShelf
import Derived.Test.YtmcebojboffdoaaGreatDoorGl
namespace Go.Proofs.YtmcebojboffdoaaGreatDoor.P
set_option linter.unusedVariables false
set_option linter.unusedSimpArgs false
open Go.RowKit Go.Proofs.YtmcebojboffdoaaGreatDoorW.PrintWords Go.Proofs.YtmcebojboffdoaaGreatDoorW.PrintLast Go.Proofs.YtmcebojboffdoaaGreatDoorW.PrintMore
def token_number.g (a0 : ByteArray) (e : Int) : Option (Int × Int × ByteArray × Int) := if e = 0 then some (3, 0, a0, 0) else if e = 1 then some (0, 0, (⟨#[]⟩ : ByteArray), 6) else some (0, 0, (⟨#[]⟩ : ByteArray), 2)
def token_number.i (a0 : ByteArray) : Option (Int × Int × ByteArray × Int) := if a0.size ≤ 281474976710656 then (match Lib.parseIntB 64 a0.data.toList with | .ok _ => some (2, 0, a0, 0) | .range => some (0, 0, (⟨#[]⟩ : ByteArray), 6) | _ => none) else none
def token_number.f (k : Nat) (a0 : ByteArray) : Option (Int × Int × ByteArray × Int) := (token_integer.f a0).bind fun b => (if b = true then (token_number.i a0) else ((token_Rate.f k a0).bind fun t => (token_number.g a0 t.2)))
theorem with_gl {P : Program} {f : FuncId} {args : Array Value} {W : World} {Q : Ending → World → Prop} (hG : Gl W) (h : Gl W → Calls P f args W Q) : Calls P f args W Q := h hG
theorem pb_ {w w' : World} {e : Nat} (h : w' = w ∨ ∃ t, w' = Lib.bytesWorld w e t) : Below w.heap.size w w' := by
  rcases h with h | ⟨t, h⟩
  · rw [h]; exact Below.refl _ _
  · rw [h]; exact Lib.bytesWorld_below _ _ _
theorem token_number.mono : ∀ a0 k, LeO (token_number.f k a0) (token_number.f (k + 1) a0) := by
  intro a0 k
  unfold token_number.f
  repeat' first
    | (with_reducible exact token_Rate.mono _ _)
    | (with_reducible exact LeO.refl _)
    | (with_reducible refine LeO.ite ?_ ?_)
    | (with_reducible refine LeO.bind ?_ (fun _ => ?_))
    | exact token_Rate.mono _ _
    | exact LeO.refl _
    | refine LeO.ite ?_ ?_
    | refine LeO.bind ?_ (fun _ => ?_)
set_option maxHeartbeats 4000000 in
set_option maxRecDepth 100000 in
theorem number_ok (a0 : ByteArray) (v : Int) (w : World) (hG : Aside0 (Gl w)) (hi : Aside0 (token_integer.f a0 = some true)) (hl : a0.size ≤ 9223372036854775806) (hv : Aside0 (Lib.parseIntB 64 a0.data.toList = .ok v)) :
    Calls Tryz.prog 57 #[.string a0] w fun e w' => e = .returned (.tuple #[.agg #[.int .i64 2, .int .i64 0, .string a0], .int .i64 0]) ∧ Below w.heap.size w w' := by
  have hu := Tryz.underlying40
  go_enter Tryz.func57, Tryz.ntmps57
  go_wp2_with (first | ((with_reducible refine gate_dst (N := 2) rfl ?_); refine box_event ?hg (N := 2) ?hd (cs := #[.int .i64 0, .int .i64 0, .string (⟨#[]⟩ : ByteArray)]) (t := 40) ?hr ?_; (case hd => rfl); (case hg => rfl); (case hr => first | (go_simp; done) | (go_simp; rfl)); intro gb hg w1 hbox hb; have BK := Aside0.mk hbox; have GE := Aside0.mk (by rw [hg]; exact Nat.le_refl _ : w.heap.size ≤ gb); have HB := Aside0.mk hb; clear hbox hb hg) | (go_at_call 39; refine (token_integer.calls a0 true _ hi.out).mono ?_; rintro e w' ⟨rfl, ⟨nd, rfl⟩⟩) | (go_at_call 80; refine (Tryz.strconv_ParseInt_10_at64_ok a0 hl v hv.out _).mono ?_; rintro e w2 ⟨rfl, hw⟩; have hb := Aside0.mk (pb_ hw); clear hw; replace hb := hb.out; have n0_ := Aside0.mk (blk_below (g := gb) (o := .cells #[.int .i64 0, .int .i64 0, .string (⟨#[]⟩ : ByteArray)] 40 (0, 0)) (by (with_reducible repeat (first | refine blk_drewN ?_ _ | refine blk_drew ?_ | refine blk_alloc ?_ _)); exact BK.out) hb); have n1_ := Aside0.mk (below_step (by repeat (first | (with_reducible first | exact HB.out | apply below_alloc | apply pw_below_drewN | apply below_drew1) | exact HB.out)) hb); clear BK HB; have BK := n0_; have HB := n1_; clear n0_ n1_ hb; have hcz_0 : w2.cell? ⟨gb, 0, none⟩ = some (.int .i64 0) := (blk_cell BK.out 0).trans rfl; have hcz_1 : w2.cell? ⟨gb, 1, none⟩ = some (.int .i64 0) := (blk_cell BK.out 1).trans rfl; have hcz_2 : w2.cell? ⟨gb, 2, none⟩ = some (.string (⟨#[]⟩ : ByteArray)) := (blk_cell BK.out 2).trans rfl; have hfz_0 := blk_frozen BK.out 0; have hfz_1 := blk_frozen BK.out 1; have hfz_2 := blk_frozen BK.out 2))
  refine bodyPost_ret (results_ct rfl _ _ gb 40 #[.int .i64 2, .int .i64 0, .string a0] (0, 0) _ rfl (by (with_reducible repeat (first | refine blk_drewN ?_ _ | refine blk_drew ?_ | refine blk_alloc ?_ _)); refine blk_put (cs := #[.int .i64 2, .int .i64 0, (.string (⟨#[]⟩ : ByteArray))]) ?_ 2 _ rfl; refine blk_put (cs := #[.int .i64 2, .int .i64 0, (.string (⟨#[]⟩ : ByteArray))]) ?_ 1 _ rfl; refine blk_put (cs := #[.int .i64 0, .int .i64 0, (.string (⟨#[]⟩ : ByteArray))]) ?_ 0 _ rfl; exact BK.out) Tryz.underlying40 rfl (by kernel_rfl)) rfl ?_
  exact ⟨by first | rfl | (simp; done) | (simp [*]; done), by repeat (first | (with_reducible first | exact HB.out | apply below_alloc | apply pw_below_drewN | apply below_drew1 | refine below_set ?_ GE.out) | exact HB.out)⟩
set_option maxHeartbeats 4000000 in
set_option maxRecDepth 100000 in
theorem number_range (a0 : ByteArray) (w : World) (hG : Aside0 (Gl w)) (hi : Aside0 (token_integer.f a0 = some true)) (hl : a0.size ≤ 281474976710656) (hv : Aside0 (Lib.parseIntB 64 a0.data.toList = .range)) :
    Calls Tryz.prog 57 #[.string a0] w fun e w' => e = .returned (.tuple #[.agg #[.int .i64 0, .int .i64 0, .string (⟨#[]⟩ : ByteArray)], .int .i64 6]) ∧ Below w.heap.size w w' := by
  have hu := Tryz.underlying40
  go_enter Tryz.func57, Tryz.ntmps57
  go_wp2_with (first | ((with_reducible refine gate_dst (N := 2) rfl ?_); refine box_event ?hg (N := 2) ?hd (cs := #[.int .i64 0, .int .i64 0, .string (⟨#[]⟩ : ByteArray)]) (t := 40) ?hr ?_; (case hd => rfl); (case hg => rfl); (case hr => first | (go_simp; done) | (go_simp; rfl)); intro gb hg w1 hbox hb; have BK := Aside0.mk hbox; have GE := Aside0.mk (by rw [hg]; exact Nat.le_refl _ : w.heap.size ≤ gb); have HB := Aside0.mk hb; clear hbox hb hg) | (go_at_call 39; refine (token_integer.calls a0 true _ hi.out).mono ?_; rintro e w' ⟨rfl, ⟨nd, rfl⟩⟩) | (go_at_call 80; refine with_gl ?gl ?_; (case gl => exact (Gl.step hG.out (by repeat (first | (with_reducible first | exact HB.out | apply below_alloc | apply pw_below_drewN | apply below_drew1) | exact HB.out)))); intro hGn; obtain ⟨tp, p, hvar⟩ := hGn.errR; refine (Tryz.strconv_ParseInt_10_at64_range_var a0 hl hv.out tp p _ hvar).mono ?_; rintro e w2 ⟨NN, rfl, hN, hNh, hb⟩; clear hN hNh hvar hGn; have n0_ := Aside0.mk (blk_below (g := gb) (o := .cells #[.int .i64 0, .int .i64 0, .string (⟨#[]⟩ : ByteArray)] 40 (0, 0)) (by (with_reducible repeat (first | refine blk_drewN ?_ _ | refine blk_drew ?_ | refine blk_alloc ?_ _)); exact BK.out) hb); have n1_ := Aside0.mk (below_step (by repeat (first | (with_reducible first | exact HB.out | apply below_alloc | apply pw_below_drewN | apply below_drew1) | exact HB.out)) hb); clear BK HB; have BK := n0_; have HB := n1_; clear n0_ n1_ hb; have hcz_0 : w2.cell? ⟨gb, 0, none⟩ = some (.int .i64 0) := (blk_cell BK.out 0).trans rfl; have hcz_1 : w2.cell? ⟨gb, 1, none⟩ = some (.int .i64 0) := (blk_cell BK.out 1).trans rfl; have hcz_2 : w2.cell? ⟨gb, 2, none⟩ = some (.string (⟨#[]⟩ : ByteArray)) := (blk_cell BK.out 2).trans rfl; have hfz_0 := blk_frozen BK.out 0; have hfz_1 := blk_frozen BK.out 1; have hfz_2 := blk_frozen BK.out 2))
  refine bodyPost_ret (results_ct rfl _ _ gb 40 #[.int .i64 0, .int .i64 0, .string (⟨#[]⟩ : ByteArray)] (0, 0) _ rfl (by (with_reducible repeat (first | refine blk_drewN ?_ _ | refine blk_drew ?_ | refine blk_alloc ?_ _)); refine blk_put (cs := #[.int .i64 0, .int .i64 0, (.string (⟨#[]⟩ : ByteArray))]) ?_ 2 _ rfl; refine blk_put (cs := #[.int .i64 0, .int .i64 0, (.string (⟨#[]⟩ : ByteArray))]) ?_ 1 _ rfl; refine blk_put (cs := #[.int .i64 0, .int .i64 0, (.string (⟨#[]⟩ : ByteArray))]) ?_ 0 _ rfl; exact BK.out) Tryz.underlying40 rfl (by kernel_rfl)) rfl ?_
  exact ⟨by first | rfl | (simp; done) | (simp [*]; done), by repeat (first | (with_reducible first | exact HB.out | apply below_alloc | apply pw_below_drewN | apply below_drew1 | refine below_set ?_ GE.out) | exact HB.out)⟩
set_option maxHeartbeats 4000000 in
set_option maxRecDepth 100000 in
theorem number_r0 (k : Nat) (a0 : ByteArray) (r : Int) (w : World) (hG : Aside0 (Gl w)) (hi : Aside0 (token_integer.f a0 = some false)) (hr : Aside0 (token_Rate.f k a0 = some (r, 0))) :
    Calls Tryz.prog 57 #[.string a0] w fun e w' => e = .returned (.tuple #[.agg #[.int .i64 3, .int .i64 0, .string a0], .int .i64 0]) ∧ Below w.heap.size w w' := by
  have hu := Tryz.underlying40
  go_enter Tryz.func57, Tryz.ntmps57
  go_wp2_with (first | ((with_reducible refine gate_dst (N := 2) rfl ?_); refine box_event ?hg (N := 2) ?hd (cs := #[.int .i64 0, .int .i64 0, .string (⟨#[]⟩ : ByteArray)]) (t := 40) ?hr ?_; (case hd => rfl); (case hg => rfl); (case hr => first | (go_simp; done) | (go_simp; rfl)); intro gb hg w1 hbox hb; have BK := Aside0.mk hbox; have GE := Aside0.mk (by rw [hg]; exact Nat.le_refl _ : w.heap.size ≤ gb); have HB := Aside0.mk hb; clear hbox hb hg) | (go_at_call 39; refine (token_integer.calls a0 false _ hi.out).mono ?_; rintro e w' ⟨rfl, ⟨nd, rfl⟩⟩) | (go_at_call 20; refine (token_Rate.calls k a0 r 0 _ (Gl.step hG.out (by repeat (first | (with_reducible first | exact HB.out | apply below_alloc | apply pw_below_drewN | apply below_drew1) | exact HB.out))) hr.out).mono ?_; rintro e w2 ⟨rfl, hb⟩; have n0_ := Aside0.mk (blk_below (g := gb) (o := .cells #[.int .i64 0, .int .i64 0, .string (⟨#[]⟩ : ByteArray)] 40 (0, 0)) (by (with_reducible repeat (first | refine blk_drewN ?_ _ | refine blk_drew ?_ | refine blk_alloc ?_ _)); exact BK.out) hb); have n1_ := Aside0.mk (below_step (by repeat (first | (with_reducible first | exact HB.out | apply below_alloc | apply pw_below_drewN | apply below_drew1) | exact HB.out)) hb); clear BK HB; have BK := n0_; have HB := n1_; clear n0_ n1_ hb; have hcz_0 : w2.cell? ⟨gb, 0, none⟩ = some (.int .i64 0) := (blk_cell BK.out 0).trans rfl; have hcz_1 : w2.cell? ⟨gb, 1, none⟩ = some (.int .i64 0) := (blk_cell BK.out 1).trans rfl; have hcz_2 : w2.cell? ⟨gb, 2, none⟩ = some (.string (⟨#[]⟩ : ByteArray)) := (blk_cell BK.out 2).trans rfl; have hfz_0 := blk_frozen BK.out 0; have hfz_1 := blk_frozen BK.out 1; have hfz_2 := blk_frozen BK.out 2))
  refine bodyPost_ret (results_ct rfl _ _ gb 40 #[.int .i64 3, .int .i64 0, .string a0] (0, 0) _ rfl (by (with_reducible repeat (first | refine blk_drewN ?_ _ | refine blk_drew ?_ | refine blk_alloc ?_ _)); refine blk_put (cs := #[.int .i64 3, .int .i64 0, (.string (⟨#[]⟩ : ByteArray))]) ?_ 2 _ rfl; refine blk_put (cs := #[.int .i64 3, .int .i64 0, (.string (⟨#[]⟩ : ByteArray))]) ?_ 1 _ rfl; refine blk_put (cs := #[.int .i64 0, .int .i64 0, (.string (⟨#[]⟩ : ByteArray))]) ?_ 0 _ rfl; exact BK.out) Tryz.underlying40 rfl (by kernel_rfl)) rfl ?_
  exact ⟨by first | rfl | (simp; done) | (simp [*]; done), by repeat (first | (with_reducible first | exact HB.out | apply below_alloc | apply pw_below_drewN | apply below_drew1 | refine below_set ?_ GE.out) | exact HB.out)⟩
set_option maxHeartbeats 4000000 in
set_option maxRecDepth 100000 in
theorem number_r1 (k : Nat) (a0 : ByteArray) (r : Int) (w : World) (hG : Aside0 (Gl w)) (hi : Aside0 (token_integer.f a0 = some false)) (hr : Aside0 (token_Rate.f k a0 = some (r, 1))) :
    Calls Tryz.prog 57 #[.string a0] w fun e w' => e = .returned (.tuple #[.agg #[.int .i64 0, .int .i64 0, .string (⟨#[]⟩ : ByteArray)], .int .i64 6]) ∧ Below w.heap.size w w' := by
  have hu := Tryz.underlying40
  go_enter Tryz.func57, Tryz.ntmps57
  go_wp2_with (first | ((with_reducible refine gate_dst (N := 2) rfl ?_); refine box_event ?hg (N := 2) ?hd (cs := #[.int .i64 0, .int .i64 0, .string (⟨#[]⟩ : ByteArray)]) (t := 40) ?hr ?_; (case hd => rfl); (case hg => rfl); (case hr => first | (go_simp; done) | (go_simp; rfl)); intro gb hg w1 hbox hb; have BK := Aside0.mk hbox; have GE := Aside0.mk (by rw [hg]; exact Nat.le_refl _ : w.heap.size ≤ gb); have HB := Aside0.mk hb; clear hbox hb hg) | (go_at_call 39; refine (token_integer.calls a0 false _ hi.out).mono ?_; rintro e w' ⟨rfl, ⟨nd, rfl⟩⟩) | (go_at_call 20; refine (token_Rate.calls k a0 r 1 _ (Gl.step hG.out (by repeat (first | (with_reducible first | exact HB.out | apply below_alloc | apply pw_below_drewN | apply below_drew1) | exact HB.out))) hr.out).mono ?_; rintro e w2 ⟨rfl, hb⟩; have n0_ := Aside0.mk (blk_below (g := gb) (o := .cells #[.int .i64 0, .int .i64 0, .string (⟨#[]⟩ : ByteArray)] 40 (0, 0)) (by (with_reducible repeat (first | refine blk_drewN ?_ _ | refine blk_drew ?_ | refine blk_alloc ?_ _)); exact BK.out) hb); have n1_ := Aside0.mk (below_step (by repeat (first | (with_reducible first | exact HB.out | apply below_alloc | apply pw_below_drewN | apply below_drew1) | exact HB.out)) hb); clear BK HB; have BK := n0_; have HB := n1_; clear n0_ n1_ hb; have hcz_0 : w2.cell? ⟨gb, 0, none⟩ = some (.int .i64 0) := (blk_cell BK.out 0).trans rfl; have hcz_1 : w2.cell? ⟨gb, 1, none⟩ = some (.int .i64 0) := (blk_cell BK.out 1).trans rfl; have hcz_2 : w2.cell? ⟨gb, 2, none⟩ = some (.string (⟨#[]⟩ : ByteArray)) := (blk_cell BK.out 2).trans rfl; have hfz_0 := blk_frozen BK.out 0; have hfz_1 := blk_frozen BK.out 1; have hfz_2 := blk_frozen BK.out 2))
  refine bodyPost_ret (results_ct rfl _ _ gb 40 #[.int .i64 0, .int .i64 0, .string (⟨#[]⟩ : ByteArray)] (0, 0) _ rfl (by (with_reducible repeat (first | refine blk_drewN ?_ _ | refine blk_drew ?_ | refine blk_alloc ?_ _)); refine blk_put (cs := #[.int .i64 0, .int .i64 0, (.string (⟨#[]⟩ : ByteArray))]) ?_ 2 _ rfl; refine blk_put (cs := #[.int .i64 0, .int .i64 0, (.string (⟨#[]⟩ : ByteArray))]) ?_ 1 _ rfl; refine blk_put (cs := #[.int .i64 0, .int .i64 0, (.string (⟨#[]⟩ : ByteArray))]) ?_ 0 _ rfl; exact BK.out) Tryz.underlying40 rfl (by kernel_rfl)) rfl ?_
  exact ⟨by first | rfl | (simp; done) | (simp [*]; done), by repeat (first | (with_reducible first | exact HB.out | apply below_alloc | apply pw_below_drewN | apply below_drew1 | refine below_set ?_ GE.out) | exact HB.out)⟩
set_option maxHeartbeats 4000000 in
set_option maxRecDepth 100000 in
theorem number_r2 (k : Nat) (a0 : ByteArray) (r q : Int) (w : World) (hG : Aside0 (Gl w)) (hi : Aside0 (token_integer.f a0 = some false)) (hr : Aside0 (token_Rate.f k a0 = some (r, q))) (q0 : (q == 0) = false) (q1 : (q == 1) = false) :
    Calls Tryz.prog 57 #[.string a0] w fun e w' => e = .returned (.tuple #[.agg #[.int .i64 0, .int .i64 0, .string (⟨#[]⟩ : ByteArray)], .int .i64 2]) ∧ Below w.heap.size w w' := by
  have hu := Tryz.underlying40
  go_enter Tryz.func57, Tryz.ntmps57
  go_wp2_with (first | ((with_reducible refine gate_dst (N := 2) rfl ?_); refine box_event ?hg (N := 2) ?hd (cs := #[.int .i64 0, .int .i64 0, .string (⟨#[]⟩ : ByteArray)]) (t := 40) ?hr ?_; (case hd => rfl); (case hg => rfl); (case hr => first | (go_simp; done) | (go_simp; rfl)); intro gb hg w1 hbox hb; have BK := Aside0.mk hbox; have GE := Aside0.mk (by rw [hg]; exact Nat.le_refl _ : w.heap.size ≤ gb); have HB := Aside0.mk hb; clear hbox hb hg) | (go_at_call 39; refine (token_integer.calls a0 false _ hi.out).mono ?_; rintro e w' ⟨rfl, ⟨nd, rfl⟩⟩) | (go_at_call 20; refine (token_Rate.calls k a0 r q _ (Gl.step hG.out (by repeat (first | (with_reducible first | exact HB.out | apply below_alloc | apply pw_below_drewN | apply below_drew1) | exact HB.out))) hr.out).mono ?_; rintro e w2 ⟨rfl, hb⟩; have n0_ := Aside0.mk (blk_below (g := gb) (o := .cells #[.int .i64 0, .int .i64 0, .string (⟨#[]⟩ : ByteArray)] 40 (0, 0)) (by (with_reducible repeat (first | refine blk_drewN ?_ _ | refine blk_drew ?_ | refine blk_alloc ?_ _)); exact BK.out) hb); have n1_ := Aside0.mk (below_step (by repeat (first | (with_reducible first | exact HB.out | apply below_alloc | apply pw_below_drewN | apply below_drew1) | exact HB.out)) hb); clear BK HB; have BK := n0_; have HB := n1_; clear n0_ n1_ hb; have hcz_0 : w2.cell? ⟨gb, 0, none⟩ = some (.int .i64 0) := (blk_cell BK.out 0).trans rfl; have hcz_1 : w2.cell? ⟨gb, 1, none⟩ = some (.int .i64 0) := (blk_cell BK.out 1).trans rfl; have hcz_2 : w2.cell? ⟨gb, 2, none⟩ = some (.string (⟨#[]⟩ : ByteArray)) := (blk_cell BK.out 2).trans rfl; have hfz_0 := blk_frozen BK.out 0; have hfz_1 := blk_frozen BK.out 1; have hfz_2 := blk_frozen BK.out 2))
  refine bodyPost_ret (results_ct rfl _ _ gb 40 #[.int .i64 0, .int .i64 0, .string (⟨#[]⟩ : ByteArray)] (0, 0) _ rfl (by (with_reducible repeat (first | refine blk_drewN ?_ _ | refine blk_drew ?_ | refine blk_alloc ?_ _)); refine blk_put (cs := #[.int .i64 0, .int .i64 0, (.string (⟨#[]⟩ : ByteArray))]) ?_ 2 _ rfl; refine blk_put (cs := #[.int .i64 0, .int .i64 0, (.string (⟨#[]⟩ : ByteArray))]) ?_ 1 _ rfl; refine blk_put (cs := #[.int .i64 0, .int .i64 0, (.string (⟨#[]⟩ : ByteArray))]) ?_ 0 _ rfl; exact BK.out) Tryz.underlying40 rfl (by kernel_rfl)) rfl ?_
  exact ⟨by first | rfl | (simp; done) | (simp [*]; done), by repeat (first | (with_reducible first | exact HB.out | apply below_alloc | apply pw_below_drewN | apply below_drew1 | refine below_set ?_ GE.out) | exact HB.out)⟩
theorem token_number.calls (k : Nat) (a0 : ByteArray) (r1 r2 : Int) (r3 : ByteArray) (r4 : Int) (w : World) (hG : Gl w) (h : token_number.f k a0 = some (r1, r2, r3, r4)) :
    Calls Tryz.prog 57 #[.string a0] w fun e w' => e = .returned (.tuple #[.agg #[.int .i64 r1, .int .i64 r2, .string r3], .int .i64 r4]) ∧ Below w.heap.size w w' := by
  unfold token_number.f at h
  obtain ⟨b, hi, h⟩ := Option.bind_eq_some_iff.1 h
  cases b with
  | true =>
    rw [if_pos rfl] at h
    unfold token_number.i at h
    by_cases hc : a0.size ≤ 281474976710656
    · rw [if_pos hc] at h
      cases hp : Lib.parseIntB 64 a0.data.toList with
      | ok v =>
        rw [hp] at h
        simp only [Option.some.injEq, Prod.mk.injEq] at h
        obtain ⟨rfl, rfl, rfl, rfl⟩ := h
        exact number_ok a0 v w ⟨hG⟩ ⟨hi⟩ (by omega) ⟨hp⟩
      | range =>
        rw [hp] at h
        simp only [Option.some.injEq, Prod.mk.injEq] at h
        obtain ⟨rfl, rfl, rfl, rfl⟩ := h
        exact number_range a0 w ⟨hG⟩ ⟨hi⟩ hc ⟨hp⟩
      | _ =>
        rw [hp] at h
        cases h
    · rw [if_neg hc] at h
      cases h
  | false =>
    rw [if_neg (show ¬ (false = true) by decide)] at h
    obtain ⟨⟨r, q⟩, hr, h⟩ := Option.bind_eq_some_iff.1 h
    unfold token_number.g at h
    by_cases q0 : q = 0
    · subst q0
      rw [if_pos rfl] at h
      simp only [Option.some.injEq, Prod.mk.injEq] at h
      obtain ⟨rfl, rfl, rfl, rfl⟩ := h
      exact number_r0 k a0 r w ⟨hG⟩ ⟨hi⟩ ⟨hr⟩
    · by_cases q1 : q = 1
      · subst q1
        rw [if_neg (show ¬ ((1 : Int) = 0) by decide), if_pos rfl] at h
        simp only [Option.some.injEq, Prod.mk.injEq] at h
        obtain ⟨rfl, rfl, rfl, rfl⟩ := h
        exact number_r1 k a0 r w ⟨hG⟩ ⟨hi⟩ ⟨hr⟩
      · rw [if_neg q0, if_neg q1] at h
        simp only [Option.some.injEq, Prod.mk.injEq] at h
        obtain ⟨rfl, rfl, rfl, rfl⟩ := h
        exact number_r2 k a0 r q w ⟨hG⟩ ⟨hi⟩ ⟨hr⟩ (beq_eq_false_iff_ne.2 q0) (beq_eq_false_iff_ne.2 q1)
end Go.Proofs.YtmcebojboffdoaaGreatDoor.P
