/-
  token.prefix at each of the four conditions with which it is called: the beginning of the text whose bytes satisfy it. Conditions: none.
-/
import Derived.Test.YtmcebojboffdoaaGreatDoorP0
import Derived.Test.YtmcebojboffdoaaGreatDoorPlain
namespace Go.Proofs.YtmcebojboffdoaaGreatDoor.P
set_option linter.unusedVariables false
set_option linter.unusedSimpArgs false
open Go.RowKit Go.Proofs.YtmcebojboffdoaaGreatDoorW.PrintWords Go.Proofs.YtmcebojboffdoaaGreatDoorW.PrintLast Go.Proofs.YtmcebojboffdoaaGreatDoorW.PrintMore
theorem w32_byte (c : Int) (h0 : 0 ≤ c) (h1 : c ≤ 255) : wrap32 c = c := by
  unfold wrap32
  omega
theorem acc_letter (c : Int) (w : World) :
    Calls Tryz.prog 55 #[.int .i32 c] w fun e w' => e = .returned (.bool (isLow c)) ∧ w' = w := by
  by_cases h1 : 97 ≤ c
  · by_cases h2 : c ≤ 122
    · have e : isLow c = true := by simp [isLow, h1, h2]
      rw [e]
      go_enter Tryz.func55, Tryz.ntmps55
      go_wp2
      go_ret
      exact ⟨rfl, rfl⟩
    · have e : isLow c = false := by simp [isLow, h2]
      rw [e]
      have h2' : decide (c ≤ 122) = false := decide_eq_false h2
      go_enter Tryz.func55, Tryz.ntmps55
      go_wp2
      go_ret
      exact ⟨rfl, rfl⟩
  · have e : isLow c = false := by simp [isLow, h1]
    rw [e]
    have h1' : decide (97 ≤ c) = false := decide_eq_false h1
    go_enter Tryz.func55, Tryz.ntmps55
    go_wp2
    go_ret
    exact ⟨rfl, rfl⟩
theorem acc_digit (c : Int) (w : World) :
    Calls Tryz.prog 41 #[.int .i32 c] w fun e w' => e = .returned (.bool (isDig c)) ∧ w' = w := by
  by_cases h1 : 48 ≤ c
  · by_cases h2 : c ≤ 57
    · have e : isDig c = true := by simp [isDig, h1, h2]
      rw [e]
      go_enter Tryz.func41, Tryz.ntmps41
      go_wp2
      go_ret
      exact ⟨rfl, rfl⟩
    · have e : isDig c = false := by simp [isDig, h2]
      rw [e]
      have h2' : decide (c ≤ 57) = false := decide_eq_false h2
      go_enter Tryz.func41, Tryz.ntmps41
      go_wp2
      go_ret
      exact ⟨rfl, rfl⟩
  · have e : isDig c = false := by simp [isDig, h1]
    rw [e]
    have h1' : decide (48 ≤ c) = false := decide_eq_false h1
    go_enter Tryz.func41, Tryz.ntmps41
    go_wp2
    go_ret
    exact ⟨rfl, rfl⟩
theorem acc_inName (c : Int) (w : World) :
    Calls Tryz.prog 56 #[.int .i32 c] w fun e w' => e = .returned (.bool (isNam c)) ∧ w' = w := by
  have HL := Aside0.mk (acc_letter c)
  have HD := Aside0.mk (acc_digit c)
  cases hl : isLow c with
  | true =>
    have e : isNam c = true := by simp [isNam, hl]
    rw [e]
    go_enter Tryz.func56, Tryz.ntmps56
    go_wp2_with (go_at_call 55; refine (HL.out _).mono ?_; rintro e w' ⟨rfl, rfl⟩; rw [hl])
    go_ret
    exact ⟨rfl, rfl⟩
  | false =>
    cases hd : isDig c with
    | true =>
      have e : isNam c = true := by simp [isNam, hd]
      rw [e]
      go_enter Tryz.func56, Tryz.ntmps56
      go_wp2_with (first | (go_at_call 55; refine (HL.out _).mono ?_; rintro e w' ⟨rfl, rfl⟩; rw [hl]) | (go_at_call 41; refine (HD.out _).mono ?_; rintro e w' ⟨rfl, rfl⟩; rw [hd]))
      go_ret
      exact ⟨rfl, rfl⟩
    | false =>
      have e : isNam c = (c == 95) := by simp [isNam, hd, hl]
      rw [e]
      go_enter Tryz.func56, Tryz.ntmps56
      go_wp2_with (first | (go_at_call 55; refine (HL.out _).mono ?_; rintro e w' ⟨rfl, rfl⟩; rw [hl]) | (go_at_call 41; refine (HD.out _).mono ?_; rintro e w' ⟨rfl, rfl⟩; rw [hd]))
      go_ret
      exact ⟨rfl, rfl⟩
theorem acc_inNumber (c : Int) (w : World) :
    Calls Tryz.prog 58 #[.int .i32 c] w fun e w' => e = .returned (.bool (isNum c)) ∧ w' = w := by
  have HN := Aside0.mk (acc_inName c)
  cases hl : isNam c with
  | true =>
    have e : isNum c = true := by simp [isNum, hl]
    rw [e]
    go_enter Tryz.func58, Tryz.ntmps58
    go_wp2_with (go_at_call 56; refine (HN.out _).mono ?_; rintro e w' ⟨rfl, rfl⟩; rw [hl])
    go_ret
    exact ⟨rfl, rfl⟩
  | false =>
    cases hd : (c == 46) with
    | true =>
      have e : isNum c = true := by simp [isNum, hd]
      rw [e]
      go_enter Tryz.func58, Tryz.ntmps58
      go_wp2_with (go_at_call 56; refine (HN.out _).mono ?_; rintro e w' ⟨rfl, rfl⟩; rw [hl])
      go_ret
      exact ⟨rfl, rfl⟩
    | false =>
      have e : isNum c = (c == 37) := by simp [isNum, hd, hl]
      rw [e]
      go_enter Tryz.func58, Tryz.ntmps58
      go_wp2_with (go_at_call 56; refine (HN.out _).mono ?_; rintro e w' ⟨rfl, rfl⟩; rw [hl])
      go_ret
      exact ⟨rfl, rfl⟩
theorem acc_line (c : Int) (w : World) :
    Calls Tryz.prog 51 #[.int .i32 c] w fun e w' => e = .returned (.bool (isLine c)) ∧ w' = w := by
  go_enter Tryz.func51, Tryz.ntmps51
  go_wp2
  go_ret
  exact ⟨rfl, rfl⟩
def token_prefix_digit.f (a0 : ByteArray) (_ : Unit) : Option ByteArray := if a0.size ≤ 9223372036854775807 then some (a0.extract 0 (plen isDig a0)) else none
set_option maxHeartbeats 4000000 in
set_option maxRecDepth 100000 in
theorem prefix_digit (s : ByteArray) (w : World) (hs : s.size ≤ 9223372036854775807) :
    Calls Tryz.prog 40 #[.string s, .func (.func 41) #[] #[]] w fun e w' => e = .returned (.string (s.extract 0 (plen isDig s))) ∧ Drawn0 w w' := by
  have hpl := plen_le isDig s
  go_enter Tryz.func40, Tryz.ntmps40
  go_wp2
  go_loop [5] (fun n => ∃ x : Int, 0 ≤ x ∧ x ≤ plen isDig s ∧ n = .int .i64 x) (fun n => plen isDig s - (intOf n).toNat)
  case atStart => exact ⟨0, by omega, by omega, rfl⟩
  case round =>
    obtain ⟨x, hx0, hx1, rfl⟩ := hrel
    have hx5 := bt_at s x
    obtain ⟨hr0, hr1⟩ := bt_range s x
    by_cases h1 : x < (s.size : Int)
    · have h1b : decide (x < (s.size : Int)) = true := decide_eq_true h1
      by_cases h2 : x < (plen isDig s : Int)
      · have hp : isDig (bt s x) = true := by
          have := plen_lt isDig s x.toNat (by omega)
          rwa [show ((x.toNat : Nat) : Int) = x by omega] at this
        have hfin : x + 1 ≤ (plen isDig s : Int) := by omega
        have hfin2 : wrap64 (x + 1) = x + 1 := by unfold wrap64; omega
        have HF := Aside0.mk hfin2
        clear hfin2
        have HP := Aside0.mk hp
        clear hp
        go_wp2_with (go_at_call 41; (try rw [w32_byte _ hr0 hr1]); refine (acc_digit (bt s x) _).mono ?_; rintro e w' ⟨rfl, rfl⟩; rw [HP.out])
        go_round
        case rel => exact ⟨x + 1, by omega, by omega, by first | rfl | rw [HF.out]⟩
        case measure => first | (simp [intOf]; omega) | (rw [HF.out]; simp [intOf]; omega)
      · have hp : isDig (bt s x) = false := by
          have e : x = (plen isDig s : Int) := by omega
          rw [e]
          exact plen_end isDig s (by omega)
        have he : x.toNat = plen isDig s := by omega
        have HE := Aside0.mk he
        clear he
        have HP := Aside0.mk hp
        clear hp
        go_wp2_with (go_at_call 41; (try rw [w32_byte _ hr0 hr1]); refine (acc_digit (bt s x) _).mono ?_; rintro e w' ⟨rfl, rfl⟩; rw [HP.out])
        go_ret
        exact ⟨by first | rfl | (rw [HE.out]; rfl), Drawn0.refl _⟩
    · have h1b : decide (x < (s.size : Int)) = false := decide_eq_false h1
      have he : x.toNat = plen isDig s := by omega
      have HE := Aside0.mk he
      clear he
      have hle : x ≤ (s.size : Int) := by omega
      go_wp2
      go_ret
      exact ⟨by first | rfl | (rw [HE.out]; rfl), Drawn0.refl _⟩
theorem token_prefix_digit.calls (a0 : ByteArray) (a1 : Unit) (r : ByteArray) (w : World) (h : token_prefix_digit.f a0 a1 = some r) :
    Calls Tryz.prog 40 #[.string a0, .func (.func 41) #[] #[]] w fun e w' => e = .returned (.string r) ∧ Drawn0 w w' := by
  unfold token_prefix_digit.f at h
  split at h
  · obtain rfl := Option.some.inj h
    exact prefix_digit a0 w (by assumption)
  · cases h
def token_prefix_inName.f (a0 : ByteArray) (_ : Unit) : Option ByteArray := if a0.size ≤ 9223372036854775807 then some (a0.extract 0 (plen isNam a0)) else none
set_option maxHeartbeats 4000000 in
set_option maxRecDepth 100000 in
theorem prefix_inName (s : ByteArray) (w : World) (hs : s.size ≤ 9223372036854775807) :
    Calls Tryz.prog 40 #[.string s, .func (.func 56) #[] #[]] w fun e w' => e = .returned (.string (s.extract 0 (plen isNam s))) ∧ Drawn0 w w' := by
  have hpl := plen_le isNam s
  go_enter Tryz.func40, Tryz.ntmps40
  go_wp2
  go_loop [5] (fun n => ∃ x : Int, 0 ≤ x ∧ x ≤ plen isNam s ∧ n = .int .i64 x) (fun n => plen isNam s - (intOf n).toNat)
  case atStart => exact ⟨0, by omega, by omega, rfl⟩
  case round =>
    obtain ⟨x, hx0, hx1, rfl⟩ := hrel
    have hx5 := bt_at s x
    obtain ⟨hr0, hr1⟩ := bt_range s x
    by_cases h1 : x < (s.size : Int)
    · have h1b : decide (x < (s.size : Int)) = true := decide_eq_true h1
      by_cases h2 : x < (plen isNam s : Int)
      · have hp : isNam (bt s x) = true := by
          have := plen_lt isNam s x.toNat (by omega)
          rwa [show ((x.toNat : Nat) : Int) = x by omega] at this
        have hfin : x + 1 ≤ (plen isNam s : Int) := by omega
        have hfin2 : wrap64 (x + 1) = x + 1 := by unfold wrap64; omega
        have HF := Aside0.mk hfin2
        clear hfin2
        have HP := Aside0.mk hp
        clear hp
        go_wp2_with (go_at_call 56; (try rw [w32_byte _ hr0 hr1]); refine (acc_inName (bt s x) _).mono ?_; rintro e w' ⟨rfl, rfl⟩; rw [HP.out])
        go_round
        case rel => exact ⟨x + 1, by omega, by omega, by first | rfl | rw [HF.out]⟩
        case measure => first | (simp [intOf]; omega) | (rw [HF.out]; simp [intOf]; omega)
      · have hp : isNam (bt s x) = false := by
          have e : x = (plen isNam s : Int) := by omega
          rw [e]
          exact plen_end isNam s (by omega)
        have he : x.toNat = plen isNam s := by omega
        have HE := Aside0.mk he
        clear he
        have HP := Aside0.mk hp
        clear hp
        go_wp2_with (go_at_call 56; (try rw [w32_byte _ hr0 hr1]); refine (acc_inName (bt s x) _).mono ?_; rintro e w' ⟨rfl, rfl⟩; rw [HP.out])
        go_ret
        exact ⟨by first | rfl | (rw [HE.out]; rfl), Drawn0.refl _⟩
    · have h1b : decide (x < (s.size : Int)) = false := decide_eq_false h1
      have he : x.toNat = plen isNam s := by omega
      have HE := Aside0.mk he
      clear he
      have hle : x ≤ (s.size : Int) := by omega
      go_wp2
      go_ret
      exact ⟨by first | rfl | (rw [HE.out]; rfl), Drawn0.refl _⟩
theorem token_prefix_inName.calls (a0 : ByteArray) (a1 : Unit) (r : ByteArray) (w : World) (h : token_prefix_inName.f a0 a1 = some r) :
    Calls Tryz.prog 40 #[.string a0, .func (.func 56) #[] #[]] w fun e w' => e = .returned (.string r) ∧ Drawn0 w w' := by
  unfold token_prefix_inName.f at h
  split at h
  · obtain rfl := Option.some.inj h
    exact prefix_inName a0 w (by assumption)
  · cases h
def token_prefix_inNumber.f (a0 : ByteArray) (_ : Unit) : Option ByteArray := if a0.size ≤ 9223372036854775807 then some (a0.extract 0 (plen isNum a0)) else none
set_option maxHeartbeats 4000000 in
set_option maxRecDepth 100000 in
theorem prefix_inNumber (s : ByteArray) (w : World) (hs : s.size ≤ 9223372036854775807) :
    Calls Tryz.prog 40 #[.string s, .func (.func 58) #[] #[]] w fun e w' => e = .returned (.string (s.extract 0 (plen isNum s))) ∧ Drawn0 w w' := by
  have hpl := plen_le isNum s
  go_enter Tryz.func40, Tryz.ntmps40
  go_wp2
  go_loop [5] (fun n => ∃ x : Int, 0 ≤ x ∧ x ≤ plen isNum s ∧ n = .int .i64 x) (fun n => plen isNum s - (intOf n).toNat)
  case atStart => exact ⟨0, by omega, by omega, rfl⟩
  case round =>
    obtain ⟨x, hx0, hx1, rfl⟩ := hrel
    have hx5 := bt_at s x
    obtain ⟨hr0, hr1⟩ := bt_range s x
    by_cases h1 : x < (s.size : Int)
    · have h1b : decide (x < (s.size : Int)) = true := decide_eq_true h1
      by_cases h2 : x < (plen isNum s : Int)
      · have hp : isNum (bt s x) = true := by
          have := plen_lt isNum s x.toNat (by omega)
          rwa [show ((x.toNat : Nat) : Int) = x by omega] at this
        have hfin : x + 1 ≤ (plen isNum s : Int) := by omega
        have hfin2 : wrap64 (x + 1) = x + 1 := by unfold wrap64; omega
        have HF := Aside0.mk hfin2
        clear hfin2
        have HP := Aside0.mk hp
        clear hp
        go_wp2_with (go_at_call 58; (try rw [w32_byte _ hr0 hr1]); refine (acc_inNumber (bt s x) _).mono ?_; rintro e w' ⟨rfl, rfl⟩; rw [HP.out])
        go_round
        case rel => exact ⟨x + 1, by omega, by omega, by first | rfl | rw [HF.out]⟩
        case measure => first | (simp [intOf]; omega) | (rw [HF.out]; simp [intOf]; omega)
      · have hp : isNum (bt s x) = false := by
          have e : x = (plen isNum s : Int) := by omega
          rw [e]
          exact plen_end isNum s (by omega)
        have he : x.toNat = plen isNum s := by omega
        have HE := Aside0.mk he
        clear he
        have HP := Aside0.mk hp
        clear hp
        go_wp2_with (go_at_call 58; (try rw [w32_byte _ hr0 hr1]); refine (acc_inNumber (bt s x) _).mono ?_; rintro e w' ⟨rfl, rfl⟩; rw [HP.out])
        go_ret
        exact ⟨by first | rfl | (rw [HE.out]; rfl), Drawn0.refl _⟩
    · have h1b : decide (x < (s.size : Int)) = false := decide_eq_false h1
      have he : x.toNat = plen isNum s := by omega
      have HE := Aside0.mk he
      clear he
      have hle : x ≤ (s.size : Int) := by omega
      go_wp2
      go_ret
      exact ⟨by first | rfl | (rw [HE.out]; rfl), Drawn0.refl _⟩
theorem token_prefix_inNumber.calls (a0 : ByteArray) (a1 : Unit) (r : ByteArray) (w : World) (h : token_prefix_inNumber.f a0 a1 = some r) :
    Calls Tryz.prog 40 #[.string a0, .func (.func 58) #[] #[]] w fun e w' => e = .returned (.string r) ∧ Drawn0 w w' := by
  unfold token_prefix_inNumber.f at h
  split at h
  · obtain rfl := Option.some.inj h
    exact prefix_inNumber a0 w (by assumption)
  · cases h
def token_prefix_line.f (a0 : ByteArray) (_ : Unit) : Option ByteArray := if a0.size ≤ 9223372036854775807 then some (a0.extract 0 (plen isLine a0)) else none
set_option maxHeartbeats 4000000 in
set_option maxRecDepth 100000 in
theorem prefix_line (s : ByteArray) (w : World) (hs : s.size ≤ 9223372036854775807) :
    Calls Tryz.prog 40 #[.string s, .func (.func 51) #[] #[]] w fun e w' => e = .returned (.string (s.extract 0 (plen isLine s))) ∧ Drawn0 w w' := by
  have hpl := plen_le isLine s
  go_enter Tryz.func40, Tryz.ntmps40
  go_wp2
  go_loop [5] (fun n => ∃ x : Int, 0 ≤ x ∧ x ≤ plen isLine s ∧ n = .int .i64 x) (fun n => plen isLine s - (intOf n).toNat)
  case atStart => exact ⟨0, by omega, by omega, rfl⟩
  case round =>
    obtain ⟨x, hx0, hx1, rfl⟩ := hrel
    have hx5 := bt_at s x
    obtain ⟨hr0, hr1⟩ := bt_range s x
    by_cases h1 : x < (s.size : Int)
    · have h1b : decide (x < (s.size : Int)) = true := decide_eq_true h1
      by_cases h2 : x < (plen isLine s : Int)
      · have hp : isLine (bt s x) = true := by
          have := plen_lt isLine s x.toNat (by omega)
          rwa [show ((x.toNat : Nat) : Int) = x by omega] at this
        have hfin : x + 1 ≤ (plen isLine s : Int) := by omega
        have hfin2 : wrap64 (x + 1) = x + 1 := by unfold wrap64; omega
        have HF := Aside0.mk hfin2
        clear hfin2
        have HP := Aside0.mk hp
        clear hp
        go_wp2_with (go_at_call 51; (try rw [w32_byte _ hr0 hr1]); refine (acc_line (bt s x) _).mono ?_; rintro e w' ⟨rfl, rfl⟩; rw [HP.out])
        go_round
        case rel => exact ⟨x + 1, by omega, by omega, by first | rfl | rw [HF.out]⟩
        case measure => first | (simp [intOf]; omega) | (rw [HF.out]; simp [intOf]; omega)
      · have hp : isLine (bt s x) = false := by
          have e : x = (plen isLine s : Int) := by omega
          rw [e]
          exact plen_end isLine s (by omega)
        have he : x.toNat = plen isLine s := by omega
        have HE := Aside0.mk he
        clear he
        have HP := Aside0.mk hp
        clear hp
        go_wp2_with (go_at_call 51; (try rw [w32_byte _ hr0 hr1]); refine (acc_line (bt s x) _).mono ?_; rintro e w' ⟨rfl, rfl⟩; rw [HP.out])
        go_ret
        exact ⟨by first | rfl | (rw [HE.out]; rfl), Drawn0.refl _⟩
    · have h1b : decide (x < (s.size : Int)) = false := decide_eq_false h1
      have he : x.toNat = plen isLine s := by omega
      have HE := Aside0.mk he
      clear he
      have hle : x ≤ (s.size : Int) := by omega
      go_wp2
      go_ret
      exact ⟨by first | rfl | (rw [HE.out]; rfl), Drawn0.refl _⟩
theorem token_prefix_line.calls (a0 : ByteArray) (a1 : Unit) (r : ByteArray) (w : World) (h : token_prefix_line.f a0 a1 = some r) :
    Calls Tryz.prog 40 #[.string a0, .func (.func 51) #[] #[]] w fun e w' => e = .returned (.string r) ∧ Drawn0 w w' := by
  unfold token_prefix_line.f at h
  split at h
  · obtain rfl := Option.some.inj h
    exact prefix_line a0 w (by assumption)
  · cases h
end Go.Proofs.YtmcebojboffdoaaGreatDoor.P
