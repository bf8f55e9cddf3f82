/-
  The contract of WordValid of the reference.
-/
import Derived.Test.YtpbnbekkmifbpaaDoorWord
namespace Go.Proofs.YtpbnbekkmifbpaaDoor
open Go.ChangeShapes Go.WideShapes Go.ChangeAt Go.RowKit Go.Joins
set_option linter.unusedVariables false

theorem okw_iff {s : ByteArray} {k : Nat} : okw s k = true ↔ ((97 ≤ bt s k ∧ bt s k ≤ 122) ∨ (0 < k ∧ 48 ≤ bt s k ∧ bt s k ≤ 57)) := by
  simp [okw, and_assoc]
theorem okw_yes {s : ByteArray} {k : Nat} (h : (97 ≤ bt s k ∧ bt s k ≤ 122) ∨ (0 < k ∧ 48 ≤ bt s k ∧ bt s k ≤ 57)) : okw s k = true := okw_iff.2 h
theorem okw_no {s : ByteArray} {k : Nat} (h : ¬ ((97 ≤ bt s k ∧ bt s k ≤ 122) ∨ (0 < k ∧ 48 ≤ bt s k ∧ bt s k ≤ 57))) : okw s k = false := by
  cases hh : okw s k
  · rfl
  · exact absurd (okw_iff.1 hh) h
theorem wvB_wi {s : ByteArray} (h : wvTo s s.size) : wi (s.size : Int) 1 8 = wvB s := by
  by_cases hl : 1 ≤ s.size ∧ s.size ≤ 8
  · rw [← wvB_good hl.1 hl.2 h]; exact wi_iff.2 ⟨by omega, by omega⟩
  · rw [← wvB_len (by omega)]; exact wi_no.2 (by omega)

set_option maxHeartbeats 1000000 in
theorem swv_any (s : ByteArray) (w : World) (hs : s.size ≤ maxLen) :
    Calls Tryd.prog 52 #[.string s] w fun e w' => e = .returned (.bool (wvB s)) ∧ w = w' := by
  unfold maxLen at hs
  go_enter Tryd.func52, Tryd.ntmps52
  go_wp2_with fail
  go_loop [3] (fun i => ∃ k : Nat, k ≤ s.size ∧ i = .int .i64 k ∧ wvTo s k) (fun i => s.size - (intOf i).toNat)
  case atStart => exact ⟨0, by omega, rfl, wvTo_0 s⟩
  case round =>
    obtain ⟨k, hk, rfl, ht⟩ := hrel
    by_cases hlt : k < s.size
    · by_cases hk0 : k = 0
      · subst hk0
        have hc : (97 ≤ (s[0].toNat : Int) ∧ (s[0].toNat : Int) ≤ 122) ∨ (s[0].toNat : Int) < 97 ∨ (122 < (s[0].toNat : Int) ∧ 97 ≤ (s[0].toNat : Int)) := by omega
        rcases hc with ⟨hc1, hc2⟩ | hc1 | ⟨hc1, hc2⟩
        all_goals
          try (have hd : decide ((s[0].toNat : Int) ≤ 122) = false := (by simp; omega))
          go_wp2
          all_goals first
            | (go_round
               case rel => exact ⟨0 + 1, by omega, by go_num, wvTo_succ ht (okw_yes (by rw [bt_eq hlt]; omega))⟩
               case measure => simp [intOf]; omega)
            | (go_ret; exact ⟨ret_bool (wvB_bad hlt (okw_no (by rw [bt_eq hlt]; omega))), rfl⟩)
      · have hk1 : (1 : Int) ≤ (k : Int) := by omega
        have hk2 : ((k : Int) == 0) = false := by simp [hk0]
        clear hk0
        have hc : (97 ≤ (s[k].toNat : Int) ∧ (s[k].toNat : Int) ≤ 122) ∨ ((s[k].toNat : Int) < 97 ∧ (s[k].toNat : Int) < 48) ∨ ((s[k].toNat : Int) < 97 ∧ 48 ≤ (s[k].toNat : Int) ∧ 57 < (s[k].toNat : Int)) ∨ ((s[k].toNat : Int) < 97 ∧ 48 ≤ (s[k].toNat : Int) ∧ (s[k].toNat : Int) ≤ 57) ∨ (122 < (s[k].toNat : Int) ∧ 97 ≤ (s[k].toNat : Int)) := by omega
        rcases hc with ⟨hc1, hc2⟩ | ⟨hc1, hc2⟩ | ⟨hc1, hc2, hc3⟩ | ⟨hc1, hc2, hc3⟩ | ⟨hc1, hc2⟩
        all_goals
          try (have hd : decide ((s[k].toNat : Int) ≤ 122) = false := (by simp; omega))
          go_wp2
          all_goals first
            | (go_round
               case rel => exact ⟨k + 1, by omega, by go_num, wvTo_succ ht (okw_yes (by rw [bt_eq hlt]; omega))⟩
               case measure => simp [intOf]; omega)
            | (go_ret; exact ⟨ret_bool (wvB_bad hlt (okw_no (by rw [bt_eq hlt]; omega))), rfl⟩)
    · obtain rfl : k = s.size := by omega
      go_wp2_with (go_at_call 69; refine (l1In_any _ _ _ _).mono ?_; rintro e w' ⟨rfl, rfl⟩)
      go_ret
      exact ⟨ret_bool (wvB_wi ht), rfl⟩
end Go.Proofs.YtpbnbekkmifbpaaDoor
