/-
  The contracts of NextPause.
-/
import Derived.Test.YteankmmmkdcaiaaBase
namespace Go.Proofs.Yteankmmmkdcaiaa
open Go.ChangeShapes Go.WideShapes Go.ChangeAt Go.RowKit Go.Joins
set_option linter.unusedVariables false

def np (p : Int) (ch : Bool) : Int := if wi p 10 1280 = true then (if ch = true then max (p / 2) 10 else min (p * 2) 1280) else -1
theorem np_no {p : Int} {ch : Bool} (h : wi p 10 1280 = false) : -1 = np p ch := by simp [np, h]
theorem np_y {p v : Int} (h : wi p 10 1280 = true) (h2 : v = max (p / 2) 10) : v = np p true := by simp [np, h, h2]
theorem np_n {p v : Int} (h : wi p 10 1280 = true) (h2 : v = min (p * 2) 1280) : v = np p false := by simp [np, h, h2]

theorem inp_any (p : Int) (ch : Bool) (w : World) :
    Calls Try.prog 12 #[.int .i64 p, .bool ch] w fun e w' => e = .returned (.int .i64 (np p ch)) ∧ w = w' := by
  cases h : wi p 10 1280
  · have H := Lib.hid h
    go_enter Try.func12, Try.ntmps12
    go_wp2_with (first | (go_at_call 35; refine (within_any _ _ _ _).mono ?_; rintro e w1 ⟨rfl, rfl⟩))
    all_goals go_ret
    all_goals exact ⟨ret_int (np_no H.out), rfl⟩
  · have H := Lib.hid h
    obtain ⟨h1, h2⟩ := wi_iff.1 h
    cases ch
    · go_enter Try.func12, Try.ntmps12
      go_wp2_with (first | (go_at_call 35; refine (within_any _ _ _ _).mono ?_; rintro e w1 ⟨rfl, rfl⟩))
      all_goals go_ret
      all_goals exact ⟨ret_int (np_n H.out (by omega)), rfl⟩
    · go_enter Try.func12, Try.ntmps12
      go_wp2_with (first | (go_at_call 35; refine (within_any _ _ _ _).mono ?_; rintro e w1 ⟨rfl, rfl⟩))
      all_goals go_ret
      all_goals exact ⟨ret_int (np_y H.out (by omega)), rfl⟩
theorem snp_any (p : Int) (ch : Bool) (w : World) :
    Calls Try.prog 11 #[.int .i64 p, .bool ch] w fun e w' => e = .returned (.int .i64 (np p ch)) ∧ w = w' := by
  cases h : wi p 10 1280
  · have H := Lib.hid h
    go_enter Try.func11, Try.ntmps11
    go_wp2_with (first | (go_at_call 34; refine (l1In_any _ _ _ _).mono ?_; rintro e w1 ⟨rfl, rfl⟩))
    all_goals go_ret
    all_goals exact ⟨ret_int (np_no H.out), rfl⟩
  · have H := Lib.hid h
    obtain ⟨h1, h2⟩ := wi_iff.1 h
    cases ch
    · go_enter Try.func11, Try.ntmps11
      go_wp2_with (first | (go_at_call 34; refine (l1In_any _ _ _ _).mono ?_; rintro e w1 ⟨rfl, rfl⟩))
      all_goals go_ret
      all_goals exact ⟨ret_int (np_n H.out (by omega)), rfl⟩
    · go_enter Try.func11, Try.ntmps11
      go_wp2_with (first | (go_at_call 34; refine (l1In_any _ _ _ _).mono ?_; rintro e w1 ⟨rfl, rfl⟩))
      all_goals go_ret
      all_goals exact ⟨ret_int (np_y H.out (by omega)), rfl⟩
theorem exNextPause (p : Int) (ch : Bool) (w : World) :
    Calls Try.prog 3 #[.int .i64 p, .bool ch] w fun e w' => e = .returned (.bool true) ∧ Below w.heap.size w w' := by
  go_enter Try.func3, Try.ntmps3
  go_wp2_with (first | (go_at_call 12; refine (inp_any _ _ _).mono ?_; rintro e w1 ⟨rfl, rfl⟩) | (go_at_call 11; refine (snp_any _ _ _).mono ?_; rintro e w1 ⟨rfl, rfl⟩))
  go_ret
  exact ⟨rfl, by go_grown⟩
end Go.Proofs.Yteankmmmkdcaiaa
