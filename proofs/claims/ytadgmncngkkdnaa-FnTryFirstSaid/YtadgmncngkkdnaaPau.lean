/-
  The contracts of PauseAfter.
-/
import Derived.Test.YtadgmncngkkdnaaAddPlain
namespace Go.Proofs.Ytadgmncngkkdnaa
open Go.ChangeShapes Go.WideShapes Go.ChangeAt Go.RowKit Go.Joins
set_option linter.unusedVariables false

theorem pau_no {t : Int} (h : wi t 1 6 = false) : -1 = pau t := by rw [pau, if_neg (by rw [h]; simp)]
theorem pau_yes {m : Nat} (h : wi (m : Int) 1 6 = true) : 60 * 4 ^ (m - 1) = pau m := by
  rw [pau, if_pos h]
  obtain ⟨h1, h2⟩ := wi_iff.1 h
  rw [show ((m : Int) - 1).toNat = m - 1 by omega]
theorem pw_bd {k : Nat} (h : k ≤ 5) : (1 : Int) ≤ 4 ^ k ∧ (4 : Int) ^ k ≤ 1024 := by
  have hh : k = 0 ∨ k = 1 ∨ k = 2 ∨ k = 3 ∨ k = 4 ∨ k = 5 := by omega
  rcases hh with rfl | rfl | rfl | rfl | rfl | rfl <;> decide

theorem pa_impl (t : Int) (w : World) : Calls Try.prog 38 #[.int .i64 t] w fun e w' => e = .returned (.int .i64 (pau t)) ∧ w = w' := by
  cases hw : wi t 1 6
  · have HP := Lib.hid (pau_no hw)
    go_enter Try.func38, Try.ntmps38
    go_wp2_with (go_at_call 33; refine (within_any _ _ _ _).mono ?_; rw [hw]; rintro e w' ⟨rfl, rfl⟩)
    go_ret
    exact ⟨ret_int HP.out, rfl⟩
  · obtain ⟨h1, h2⟩ := wi_iff.1 hw
    obtain ⟨m, rfl⟩ := Int.eq_ofNat_of_zero_le (show 0 ≤ t by omega)
    have HP := Lib.hid (pau_yes hw)
    generalize hz : pau (m : Int) = z at *
    clear hz
    go_enter Try.func38, Try.ntmps38
    go_wp2_with (go_at_call 33; refine (within_any _ _ _ _).mono ?_; rw [hw]; rintro e w' ⟨rfl, rfl⟩)
    go_loop [3, 4] (fun p i => ∃ k : Nat, 1 ≤ k ∧ k ≤ m ∧ i = .int .i64 k ∧ p = .int .i64 (60 * 4 ^ (k - 1))) (fun _ i => m - (intOf i).toNat)
    case atStart => exact ⟨1, by omega, by omega, rfl, rfl⟩
    case round =>
      obtain ⟨k, hk1, hk, rfl, rfl⟩ := hrel
      by_cases hlt : k < m
      · obtain ⟨b1, b2⟩ := pw_bd (k := k - 1) (by omega)
        have HE : Hid ((4 : Int) ^ (k + 1 - 1) = 4 ^ (k - 1) * 4) := Lib.hid (by rw [show k + 1 - 1 = (k - 1) + 1 by omega, Int.pow_succ])
        generalize (4 : Int) ^ (k - 1) = u at *
        go_wp2_with fail
        go_round
        case rel => exact ⟨k + 1, by omega, by omega, by go_num, by rw [HE.out]; congr 1; omega⟩
        case measure => simp [intOf]; omega
      · obtain rfl : k = m := by omega
        go_wp2_with fail
        go_ret
        exact ⟨ret_int HP.out, rfl⟩
theorem pa_spec (t : Int) (w : World) : Calls Try.prog 40 #[.int .i64 t] w fun e w' => e = .returned (.int .i64 (pau t)) ∧ w = w' := by
  cases hw : wi t 1 6
  · have HP := Lib.hid (pau_no hw)
    go_enter Try.func40, Try.ntmps40
    go_wp2_with (go_at_call 39; refine (l1In_any _ _ _ _).mono ?_; rw [hw]; rintro e w' ⟨rfl, rfl⟩)
    go_ret
    exact ⟨ret_int HP.out, rfl⟩
  · obtain ⟨h1, h2⟩ := wi_iff.1 hw
    obtain ⟨m, rfl⟩ := Int.eq_ofNat_of_zero_le (show 0 ≤ t by omega)
    have HP := Lib.hid (pau_yes hw)
    generalize hz : pau (m : Int) = z at *
    clear hz
    go_enter Try.func40, Try.ntmps40
    go_wp2_with (go_at_call 39; refine (l1In_any _ _ _ _).mono ?_; rw [hw]; rintro e w' ⟨rfl, rfl⟩)
    go_loop [3, 4] (fun p i => ∃ k : Nat, 1 ≤ k ∧ k ≤ m ∧ i = .int .i64 k ∧ p = .int .i64 (60 * 4 ^ (k - 1))) (fun _ i => m - (intOf i).toNat)
    case atStart => exact ⟨1, by omega, by omega, rfl, rfl⟩
    case round =>
      obtain ⟨k, hk1, hk, rfl, rfl⟩ := hrel
      by_cases hlt : k < m
      · obtain ⟨b1, b2⟩ := pw_bd (k := k - 1) (by omega)
        have HE : Hid ((4 : Int) ^ (k + 1 - 1) = 4 ^ (k - 1) * 4) := Lib.hid (by rw [show k + 1 - 1 = (k - 1) + 1 by omega, Int.pow_succ])
        generalize (4 : Int) ^ (k - 1) = u at *
        go_wp2_with fail
        go_round
        case rel => exact ⟨k + 1, by omega, by omega, by go_num, by rw [HE.out]; congr 1; omega⟩
        case measure => simp [intOf]; omega
      · obtain rfl : k = m := by omega
        go_wp2_with fail
        go_ret
        exact ⟨ret_int HP.out, rfl⟩
end Go.Proofs.Ytadgmncngkkdnaa
