/-
  The contracts of what is kept of feeds.
-/
import Derived.Test.YtgbbobpakjlddaaBase
namespace Go.Proofs.Ytgbbobpakjlddaa
open Go.ChangeShapes Go.WideShapes Go.ChangeAt Go.RowKit Go.Joins
set_option linter.unusedVariables false

/-- What is kept, as a value. -/
abbrev kp (a b : Int) : Value := .agg #[.int .i64 a, .int .i64 b]
def kpV (a b : Int) : Bool := wi a (-1) 999982 && wi b 0 1000000000 && (decide (0 ≤ a) || b == 0)
theorem kpV_iff {a b : Int} : kpV a b = true ↔ (-1 ≤ a ∧ a ≤ 999982) ∧ (0 ≤ b ∧ b ≤ 1000000000) ∧ (0 ≤ a ∨ b = 0) := by
  simp [kpV, wi_iff, and_assoc]

theorem ikv_any (a b : Int) (w : World) :
    Calls Try.prog 13 #[kp a b] w fun e w' => e = .returned (.bool (kpV a b)) ∧ w.alloc (.cells #[.int .i64 a, .int .i64 b] 25) = w' := by
  go_enter Try.func13, Try.ntmps13
  go_wp2_with (first | (go_at_call 32; refine (within_any _ _ _ _).mono ?_; rintro e w' ⟨rfl, rfl⟩))
  all_goals (go_ret; first | exact ⟨ret_bool (by simp [kpV, *]; done), rfl⟩ | exact ⟨ret_bool (by simp [kpV, *]; omega), rfl⟩ | trace_state)
theorem skv_any (a b : Int) (w : World) :
    Calls Try.prog 11 #[kp a b] w fun e w' => e = .returned (.bool (kpV a b)) ∧ w.alloc (.cells #[.int .i64 a, .int .i64 b] 25) = w' := by
  go_enter Try.func11, Try.ntmps11
  go_wp2_with (first | (go_at_call 31; refine (l1In_any _ _ _ _).mono ?_; rintro e w' ⟨rfl, rfl⟩))
  all_goals (go_ret; first | exact ⟨ret_bool (by simp [kpV, *]; done), rfl⟩ | exact ⟨ret_bool (by simp [kpV, *]; omega), rfl⟩ | trace_state)

theorem tok_any (a b : Int) (w : World) :
    Calls Try.prog 12 #[kp a b] w fun e w' => e = .returned (kp a b) ∧ ∃ o1 o2 o3, ((w.alloc o1).alloc o2).alloc o3 = w' := by
  go_enter Try.func12, Try.ntmps12
  go_wp2
  go_returns
  exact ⟨rfl, _, _, _, rfl⟩
theorem eqk_same (a b : Int) (w : World) :
    Calls Try.prog 18 #[kp a b, kp a b] w fun e w' => e = .returned (.bool true) ∧ ∃ o1 o2, (w.alloc o1).alloc o2 = w' := by
  go_enter Try.func18, Try.ntmps18
  go_wp2
  go_ret
  exact ⟨rfl, _, _, rfl⟩

def fcV (a b dg : Int) : Bool := kpV a b && wi dg 0 999982
def fc (a b now dg : Int) : Int := if fcV a b dg = true then (if 0 ≤ a ∧ now < b then 0 else if a = dg then 304 else 200) else -1
theorem fc_no {a b now dg : Int} (h : fcV a b dg = false) : fc a b now dg = -1 := by simp [fc, h]
theorem fc_0 {a b now dg : Int} (h : fcV a b dg = true) (h1 : 0 ≤ a) (h2 : now < b) : fc a b now dg = 0 := by simp [fc, h, h1, h2]
theorem fc_304 {a b now dg : Int} (h : fcV a b dg = true) (h1 : a < 0 ∨ b ≤ now) (h2 : a = dg) : fc a b now dg = 304 := by
  unfold fc; rw [if_pos h, if_neg (by omega), if_pos h2]
theorem fc_200 {a b now dg : Int} (h : fcV a b dg = true) (h1 : a < 0 ∨ b ≤ now) (h2 : a ≠ dg) : fc a b now dg = 200 := by
  unfold fc; rw [if_pos h, if_neg (by omega), if_neg h2]
theorem fc_pos {a b now dg : Int} (h : fcV a b dg = true) : 0 ≤ fc a b now dg := by
  unfold fc; rw [if_pos h]; split <;> (try split) <;> omega

theorem ifc_no1 (a b now dg : Int) (w : World) (h : kpV a b = false) :
    Calls Try.prog 15 #[kp a b, .int .i64 now, .int .i64 dg] w fun e w' => e = .returned (.int .i64 (-1)) ∧ ∃ o1 o2, (w.alloc o1).alloc o2 = w' := by
  go_enter Try.func15, Try.ntmps15
  go_wp2_with (first | (go_at_call 13; refine (ikv_any _ _ _).mono ?_; rintro e w1 ⟨rfl, rfl⟩) | (go_at_call 32; refine (within_any _ _ _ _).mono ?_; rintro e w' ⟨rfl, rfl⟩))
  all_goals go_ret
  all_goals exact ⟨rfl, _, _, rfl⟩
theorem ifc_no2 (a b now dg : Int) (w : World) (h : kpV a b = true) (h2 : wi dg 0 999982 = false) :
    Calls Try.prog 15 #[kp a b, .int .i64 now, .int .i64 dg] w fun e w' => e = .returned (.int .i64 (-1)) ∧ ∃ o1 o2, (w.alloc o1).alloc o2 = w' := by
  go_enter Try.func15, Try.ntmps15
  go_wp2_with (first | (go_at_call 13; refine (ikv_any _ _ _).mono ?_; rintro e w1 ⟨rfl, rfl⟩) | (go_at_call 32; refine (within_any _ _ _ _).mono ?_; rintro e w' ⟨rfl, rfl⟩))
  all_goals go_ret
  all_goals exact ⟨rfl, _, _, rfl⟩
theorem ifc_yes (a b now dg : Int) (w : World) (h : kpV a b = true) (h2 : wi dg 0 999982 = true) :
    Calls Try.prog 15 #[kp a b, .int .i64 now, .int .i64 dg] w fun e w' => e = .returned (.int .i64 (fc a b now dg)) ∧ ∃ o1 o2, (w.alloc o1).alloc o2 = w' := by
  have hv : fcV a b dg = true := by simp [fcV, h, h2]
  have HV := Lib.hid hv; clear hv
  by_cases h3 : 0 ≤ a
  · by_cases h4 : now < b
    · go_enter Try.func15, Try.ntmps15
      go_wp2_with (first | (go_at_call 13; refine (ikv_any _ _ _).mono ?_; rintro e w1 ⟨rfl, rfl⟩) | (go_at_call 32; refine (within_any _ _ _ _).mono ?_; rintro e w' ⟨rfl, rfl⟩))
      all_goals go_ret
      all_goals exact ⟨ret_int (fc_0 HV.out h3 h4).symm, _, _, rfl⟩
    · by_cases h5 : a = dg
      · have h6 : (a == dg) = true := by simp [h5]
        have H5 := Lib.hid h5; clear h5
        go_enter Try.func15, Try.ntmps15
        go_wp2_with (first | (go_at_call 13; refine (ikv_any _ _ _).mono ?_; rintro e w1 ⟨rfl, rfl⟩) | (go_at_call 32; refine (within_any _ _ _ _).mono ?_; rintro e w' ⟨rfl, rfl⟩))
        all_goals go_ret
        all_goals exact ⟨ret_int (fc_304 HV.out (by omega) H5.out).symm, _, _, rfl⟩
      · have h6 : (a == dg) = false := by simp [h5]
        have H5 := Lib.hid h5; clear h5
        go_enter Try.func15, Try.ntmps15
        go_wp2_with (first | (go_at_call 13; refine (ikv_any _ _ _).mono ?_; rintro e w1 ⟨rfl, rfl⟩) | (go_at_call 32; refine (within_any _ _ _ _).mono ?_; rintro e w' ⟨rfl, rfl⟩))
        all_goals go_ret
        all_goals exact ⟨ret_int (fc_200 HV.out (by omega) H5.out).symm, _, _, rfl⟩
  · by_cases h5 : a = dg
    · have h6 : (a == dg) = true := by simp [h5]
      have H5 := Lib.hid h5; clear h5
      go_enter Try.func15, Try.ntmps15
      go_wp2_with (first | (go_at_call 13; refine (ikv_any _ _ _).mono ?_; rintro e w1 ⟨rfl, rfl⟩) | (go_at_call 32; refine (within_any _ _ _ _).mono ?_; rintro e w' ⟨rfl, rfl⟩))
      all_goals go_ret
      all_goals exact ⟨ret_int (fc_304 HV.out (by omega) H5.out).symm, _, _, rfl⟩
    · have h6 : (a == dg) = false := by simp [h5]
      have H5 := Lib.hid h5; clear h5
      go_enter Try.func15, Try.ntmps15
      go_wp2_with (first | (go_at_call 13; refine (ikv_any _ _ _).mono ?_; rintro e w1 ⟨rfl, rfl⟩) | (go_at_call 32; refine (within_any _ _ _ _).mono ?_; rintro e w' ⟨rfl, rfl⟩))
      all_goals go_ret
      all_goals exact ⟨ret_int (fc_200 HV.out (by omega) H5.out).symm, _, _, rfl⟩
theorem ifc_any (a b now dg : Int) (w : World) :
    Calls Try.prog 15 #[kp a b, .int .i64 now, .int .i64 dg] w fun e w' => e = .returned (.int .i64 (fc a b now dg)) ∧ ∃ o1 o2, (w.alloc o1).alloc o2 = w' := by
  cases h : kpV a b
  · rw [fc_no (by simp [fcV, h])]; exact ifc_no1 a b now dg w h
  · cases h2 : wi dg 0 999982
    · rw [fc_no (by simp [fcV, h, h2])]; exact ifc_no2 a b now dg w h h2
    · exact ifc_yes a b now dg w h h2
theorem sfc_no1 (a b now dg : Int) (w : World) (h : kpV a b = false) :
    Calls Try.prog 14 #[kp a b, .int .i64 now, .int .i64 dg] w fun e w' => e = .returned (.int .i64 (-1)) ∧ ∃ o1 o2, (w.alloc o1).alloc o2 = w' := by
  go_enter Try.func14, Try.ntmps14
  go_wp2_with (first | (go_at_call 11; refine (skv_any _ _ _).mono ?_; rintro e w1 ⟨rfl, rfl⟩) | (go_at_call 31; refine (l1In_any _ _ _ _).mono ?_; rintro e w' ⟨rfl, rfl⟩))
  all_goals go_ret
  all_goals exact ⟨rfl, _, _, rfl⟩
theorem sfc_no2 (a b now dg : Int) (w : World) (h : kpV a b = true) (h2 : wi dg 0 999982 = false) :
    Calls Try.prog 14 #[kp a b, .int .i64 now, .int .i64 dg] w fun e w' => e = .returned (.int .i64 (-1)) ∧ ∃ o1 o2, (w.alloc o1).alloc o2 = w' := by
  go_enter Try.func14, Try.ntmps14
  go_wp2_with (first | (go_at_call 11; refine (skv_any _ _ _).mono ?_; rintro e w1 ⟨rfl, rfl⟩) | (go_at_call 31; refine (l1In_any _ _ _ _).mono ?_; rintro e w' ⟨rfl, rfl⟩))
  all_goals go_ret
  all_goals exact ⟨rfl, _, _, rfl⟩
theorem sfc_yes (a b now dg : Int) (w : World) (h : kpV a b = true) (h2 : wi dg 0 999982 = true) :
    Calls Try.prog 14 #[kp a b, .int .i64 now, .int .i64 dg] w fun e w' => e = .returned (.int .i64 (fc a b now dg)) ∧ ∃ o1 o2, (w.alloc o1).alloc o2 = w' := by
  have hv : fcV a b dg = true := by simp [fcV, h, h2]
  have HV := Lib.hid hv; clear hv
  by_cases h3 : 0 ≤ a
  · by_cases h4 : now < b
    · go_enter Try.func14, Try.ntmps14
      go_wp2_with (first | (go_at_call 11; refine (skv_any _ _ _).mono ?_; rintro e w1 ⟨rfl, rfl⟩) | (go_at_call 31; refine (l1In_any _ _ _ _).mono ?_; rintro e w' ⟨rfl, rfl⟩))
      all_goals go_ret
      all_goals exact ⟨ret_int (fc_0 HV.out h3 h4).symm, _, _, rfl⟩
    · by_cases h5 : a = dg
      · have h6 : (a == dg) = true := by simp [h5]
        have H5 := Lib.hid h5; clear h5
        go_enter Try.func14, Try.ntmps14
        go_wp2_with (first | (go_at_call 11; refine (skv_any _ _ _).mono ?_; rintro e w1 ⟨rfl, rfl⟩) | (go_at_call 31; refine (l1In_any _ _ _ _).mono ?_; rintro e w' ⟨rfl, rfl⟩))
        all_goals go_ret
        all_goals exact ⟨ret_int (fc_304 HV.out (by omega) H5.out).symm, _, _, rfl⟩
      · have h6 : (a == dg) = false := by simp [h5]
        have H5 := Lib.hid h5; clear h5
        go_enter Try.func14, Try.ntmps14
        go_wp2_with (first | (go_at_call 11; refine (skv_any _ _ _).mono ?_; rintro e w1 ⟨rfl, rfl⟩) | (go_at_call 31; refine (l1In_any _ _ _ _).mono ?_; rintro e w' ⟨rfl, rfl⟩))
        all_goals go_ret
        all_goals exact ⟨ret_int (fc_200 HV.out (by omega) H5.out).symm, _, _, rfl⟩
  · by_cases h5 : a = dg
    · have h6 : (a == dg) = true := by simp [h5]
      have H5 := Lib.hid h5; clear h5
      go_enter Try.func14, Try.ntmps14
      go_wp2_with (first | (go_at_call 11; refine (skv_any _ _ _).mono ?_; rintro e w1 ⟨rfl, rfl⟩) | (go_at_call 31; refine (l1In_any _ _ _ _).mono ?_; rintro e w' ⟨rfl, rfl⟩))
      all_goals go_ret
      all_goals exact ⟨ret_int (fc_304 HV.out (by omega) H5.out).symm, _, _, rfl⟩
    · have h6 : (a == dg) = false := by simp [h5]
      have H5 := Lib.hid h5; clear h5
      go_enter Try.func14, Try.ntmps14
      go_wp2_with (first | (go_at_call 11; refine (skv_any _ _ _).mono ?_; rintro e w1 ⟨rfl, rfl⟩) | (go_at_call 31; refine (l1In_any _ _ _ _).mono ?_; rintro e w' ⟨rfl, rfl⟩))
      all_goals go_ret
      all_goals exact ⟨ret_int (fc_200 HV.out (by omega) H5.out).symm, _, _, rfl⟩
theorem sfc_any (a b now dg : Int) (w : World) :
    Calls Try.prog 14 #[kp a b, .int .i64 now, .int .i64 dg] w fun e w' => e = .returned (.int .i64 (fc a b now dg)) ∧ ∃ o1 o2, (w.alloc o1).alloc o2 = w' := by
  cases h : kpV a b
  · rw [fc_no (by simp [fcV, h])]; exact sfc_no1 a b now dg w h
  · cases h2 : wi dg 0 999982
    · rw [fc_no (by simp [fcV, h, h2])]; exact sfc_no2 a b now dg w h h2
    · exact sfc_yes a b now dg w h h2

end Go.Proofs.Ytgbbobpakjlddaa
