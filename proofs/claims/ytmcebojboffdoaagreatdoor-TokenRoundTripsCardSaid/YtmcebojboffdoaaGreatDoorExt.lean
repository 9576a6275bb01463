/-
  Functions of Go's library at the inputs with which the program calls them: strings.Fields (bytes below 128), strings.Count (one byte), strconv.Itoa, strings.TrimRight (one byte below 128). Conditions: what the library's variables hold ('Gl').
-/
import Derived.Test.YtmcebojboffdoaaGreatDoorP0
import Derived.Test.YtmcebojboffdoaaGreatDoorGl
import Derived.Test.YtmcebojboffdoaaGreatDoorShelf
namespace Go.Proofs.YtmcebojboffdoaaGreatDoor.P
set_option linter.unusedVariables false
set_option linter.unusedSimpArgs false
open Go.RowKit Go.Proofs.YtmcebojboffdoaaGreatDoorW.PrintWords Go.Proofs.YtmcebojboffdoaaGreatDoorW.PrintLast Go.Proofs.YtmcebojboffdoaaGreatDoorW.PrintMore
theorem take_all {α : Type} (l : List α) : l.take (l.length * 1) = l := by rw [Nat.mul_one]; exact List.take_length
theorem alloc_last (w : World) (o : Obj) : (w.alloc o).heap[w.heap.size]? = some o := by
  show (w.heap.push o)[w.heap.size]? = some o
  simp
/-- A row that a call has laid whole in a new block. -/
theorem R_block {α : Type} {enc : α → Value} {h1 : ∀ x, (enc x).oneCell' = true} (e : Nat) (w : World) (xs : List α) (hm : xs.length ≤ 9223372036854775807) :
    (Kd.scalar enc h1).R e (w.alloc (.cells (encs enc xs).toArray e)) w.heap.size (fun _ => True) (.slice (some ⟨w.heap.size, 0, none⟩) xs.length xs.length) xs := by
  refine Kd.R_of_own ⟨by simp [encs_length], .inr ⟨w.heap.size, xs.length, (encs enc xs).toArray, rfl, Nat.le_refl _, ?_, Nat.le_refl _, by unfold maxLen; omega, by simp [encs_length], ?_⟩⟩ (fun _ _ => trivial)
  · exact alloc_last w _
  · have := take_all (encs enc xs)
    rw [encs_length] at this
    simpa using this
def ascii (s : ByteArray) : Bool := s.data.toList.all fun b => decide (b.toNat < 128)
def strings_Fields.f (a0 : ByteArray) : Option (List ByteArray) := if a0.size < 4294967281 ∧ ascii a0 = true then some ((Lib.fields a0.data.toList).map fun l => (⟨l.toArray⟩ : ByteArray)) else none
theorem fields_len : ∀ (l cur : List UInt8), (Lib.fieldsGo cur l).length ≤ l.length + 1
  | [], cur => by
    unfold Lib.fieldsGo
    split <;> simp
  | b :: t, cur => by
    have h1 := fields_len t []
    have h3 := fields_len t (cur ++ [b])
    unfold Lib.fieldsGo
    repeat' split
    all_goals (simp only [List.length_cons]; omega)
theorem strings_Fields.calls (a0 : ByteArray) (r : List ByteArray) (w : World) (hG : Gl w) (h : strings_Fields.f a0 = some r) :
    Calls Tryz.prog 50 #[.string a0] w fun e w' => ∃ v0_ : Value, e = .returned (v0_) ∧ Kd.R Kd.string 9 w' w.heap.size (fun _ => True) v0_ r ∧ Below w.heap.size w w' := by
  unfold strings_Fields.f at h
  split at h
  · rename_i hc
    obtain rfl := Option.some.inj h
    refine (Tryz.strings_Fields_laid a0 w hc.1 (fun j b hj => ?_) hG.space).mono ?_
    · have := List.all_eq_true.1 hc.2 b (List.mem_of_getElem? hj)
      simpa using this
    · rintro e w' ⟨rfl, rfl⟩
      have hl : (Lib.fields a0.data.toList).length ≤ 9223372036854775807 := by
        have := fields_len a0.data.toList []
        have h2 : a0.data.toList.length = a0.size := rfl
        unfold Lib.fields
        omega
      have hR := R_block (enc := Value.string) (h1 := fun _ => rfl) 9 w ((Lib.fields a0.data.toList).map fun l => (⟨l.toArray⟩ : ByteArray)) (by simpa using hl)
      refine ⟨_, rfl, ?_, (Below.refl _ _).alloc (Nat.le_refl _) _⟩
      have e : encs Value.string ((Lib.fields a0.data.toList).map fun l => (⟨l.toArray⟩ : ByteArray)) = (Lib.fields a0.data.toList).map fun l => Value.string ⟨l.toArray⟩ := by simp [encs]
      rw [e, List.length_map] at hR
      exact hR
  · cases h
/-- strings.Count of a text of one byte. -/
def strings_Count.f (a0 a1 : ByteArray) : Option Int := if h : a1.size = 1 then some (Lib.countByte a0.data.toList (a1[0]'(by omega))) else none
theorem one_byte (a : ByteArray) (h : a.size = 1) : a = ⟨#[a[0]'(by omega)]⟩ := by
  obtain ⟨⟨l⟩⟩ := a
  match l, h with
  | [x], _ => rfl
theorem strings_Count.calls (a0 a1 : ByteArray) (r : Int) (w : World) (h : strings_Count.f a0 a1 = some r) :
    Calls Tryz.prog 27 #[.string a0, .string a1] w fun e w' => e = .returned (.int .i64 r) ∧ Drawn0 w w' := by
  unfold strings_Count.f at h
  split at h
  · rename_i hc
    obtain rfl := Option.some.inj h
    have := Tryz.strings_Count_one a0 (a1[0]'(by omega)) w
    rw [← one_byte a1 hc] at this
    exact this.mono fun e w' ⟨he, hw⟩ => ⟨he, hw ▸ Drawn0.refl _⟩
  · cases h
theorem grow_below (w : World) (k : Nat) (os : Array Obj) : Below w.heap.size w (Go.Sort.grow (w.drewN k) os) :=
  ⟨rfl, rfl, rfl, by show w.heap.size ≤ (w.heap ++ os).size; rw [Array.size_append]; omega, fun j hj => by
    show (w.heap ++ os)[j]? = w.heap[j]?
    rw [Array.getElem?_append_left hj]⟩
def strconv_Itoa.f (a0 : Int) : Option ByteArray := if -9223372036854775808 ≤ a0 ∧ a0 ≤ 9223372036854775807 then some ⟨(Lib.itoa a0).toArray⟩ else none
theorem strconv_Itoa.calls (a0 : Int) (r : ByteArray) (w : World) (hG : Gl w) (h : strconv_Itoa.f a0 = some r) :
    Calls Tryz.prog 46 #[.int .i64 a0] w fun e w' => e = .returned (.string r) ∧ Below w.heap.size w w' := by
  unfold strconv_Itoa.f at h
  split at h
  · rename_i hc
    obtain rfl := Option.some.inj h
    refine (Tryz.strconv_Itoa a0 hc.1 hc.2 w hG.pow).mono ?_
    rintro e w' ⟨he, k, os, rfl⟩
    exact ⟨he, grow_below w k os⟩
  · cases h
def strings_TrimRight.f (a0 a1 : ByteArray) : Option ByteArray := if h : a1.size = 1 then (if (a1[0]'(by omega)).toNat < 128 ∧ a0.size ≤ 9223372036854775807 then some ⟨(Lib.trimRightB a0.data.toList (a1[0]'(by omega))).toArray⟩ else none) else none
theorem strings_TrimRight.calls (a0 a1 : ByteArray) (r : ByteArray) (w : World) (h : strings_TrimRight.f a0 a1 = some r) :
    Calls Tryz.prog 47 #[.string a0, .string a1] w fun e w' => e = .returned (.string r) ∧ Below w.heap.size w w' := by
  unfold strings_TrimRight.f at h
  split at h
  · rename_i hc
    split at h
    · rename_i h2
      obtain rfl := Option.some.inj h
      have := Tryz.strings_TrimRight_one a0 (a1[0]'(by omega)) h2.1 w h2.2
      rw [← one_byte a1 hc] at this
      exact this.mono fun e w' ⟨he, hw⟩ => ⟨he, hw ▸ Below.refl _ _⟩
    · cases h
  · cases h
def strings_Cut.f (a0 a1 : ByteArray) : Option (ByteArray × ByteArray × Bool) := if a0.size < 4294967281 then some (⟨(Lib.cut a0.data.toList a1.data.toList).1.toArray⟩, ⟨(Lib.cut a0.data.toList a1.data.toList).2.1.toArray⟩, (Lib.cut a0.data.toList a1.data.toList).2.2) else none
theorem strings_Cut.calls (a0 a1 : ByteArray) (r1 r2 : ByteArray) (r3 : Bool) (w : World) (hG : Gl w) (h : strings_Cut.f a0 a1 = some (r1, r2, r3)) :
    Calls Tryz.prog 38 #[.string a0, .string a1] w fun e w' => e = .returned (.tuple #[.string r1, .string r2, .bool r3]) ∧ Drawn0 w w' := by
  unfold strings_Cut.f at h
  split at h
  · rename_i hc
    simp only [Option.some.injEq, Prod.mk.injEq] at h
    obtain ⟨rfl, rfl, rfl⟩ := h
    obtain ⟨m, hm⟩ := hG.maxLen
    exact (Tryz.strings_Cut a0 a1 m w hc hm).mono fun e w' ⟨he, hw⟩ => ⟨he, ⟨hw⟩⟩
  · cases h
/-- strconv.Atoi of a numeral that is in range. -/
def strconv_Atoi.f (a0 : ByteArray) : Option (Int × Option Int) := if a0.size ≤ 9223372036854775806 then (match Lib.atoiAll a0.data.toList with | .ok v => some (v, none) | _ => none) else none
theorem strconv_Atoi.calls (a0 : ByteArray) (r1 : Int) (r2 : Option Int) (w : World) (h : strconv_Atoi.f a0 = some (r1, r2)) :
    Calls Tryz.prog 42 #[.string a0] w fun e w' => e = .returned (.tuple #[.int .i64 r1, errW r2]) ∧ Below w.heap.size w w' := by
  unfold strconv_Atoi.f at h
  split at h
  · rename_i hc
    split at h
    · rename_i v hv
      simp only [Option.some.injEq, Prod.mk.injEq] at h
      obtain ⟨h1, h2⟩ := h
      subst h1 h2
      have hC := Tryz.strconv_Atoi_ok a0 hc v hv w
      generalize Tryz.prog = P at *
      refine hC.mono fun e w' hq => ⟨hq.1, ?_⟩
      rcases hq.2 with hw | ⟨t, hw⟩
      · rw [hw]; exact Below.refl _ _
      · rw [hw]; exact Lib.bytesWorld_below _ _ _
    · cases h
  · cases h
end Go.Proofs.YtmcebojboffdoaaGreatDoor.P
