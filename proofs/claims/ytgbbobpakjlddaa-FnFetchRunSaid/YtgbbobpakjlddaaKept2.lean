/-
  The contracts of KeepFetch.
-/
import Derived.Test.YtgbbobpakjlddaaKept
namespace Go.Proofs.Ytgbbobpakjlddaa
open Go.ChangeShapes Go.WideShapes Go.ChangeAt Go.RowKit Go.Joins
set_option linter.unusedVariables false

def kfV (a b now dg long : Int) : Bool := fcV a b dg && wi now 0 1000000 && wi long 0 1000000
def kfA (a b now dg long : Int) : Int := if kfV a b now dg long = true then (if fc a b now dg = 0 then a else dg) else -1
def kfB (a b now dg long : Int) : Int := if kfV a b now dg long = true then (if fc a b now dg = 0 then b else now + long) else 0
theorem ret_kp {a b a' b' : Int} (h1 : a = a') (h2 : b = b') : Ending.returned (kp a b) = .returned (kp a' b') := by rw [h1, h2]
theorem kf_no {a b now dg long : Int} (h : kfV a b now dg long = false) : -1 = kfA a b now dg long ∧ 0 = kfB a b now dg long := by simp [kfA, kfB, h]
theorem kf_0 {a b now dg long : Int} (h : kfV a b now dg long = true) (h2 : fc a b now dg = 0) : a = kfA a b now dg long ∧ b = kfB a b now dg long := by simp [kfA, kfB, h, h2]
theorem kf_1 {a b now dg long : Int} (h : kfV a b now dg long = true) (h2 : fc a b now dg ≠ 0) : dg = kfA a b now dg long ∧ now + long = kfB a b now dg long := by simp [kfA, kfB, h, h2]

theorem ikf_no (a b now dg long : Int) (w : World) (h : kfV a b now dg long = false) :
    Calls Try.prog 17 #[kp a b, .int .i64 now, .int .i64 dg, .int .i64 long] w fun e w' => e = .returned (kp (kfA a b now dg long) (kfB a b now dg long)) ∧ ∃ o1 o2 o3 o4, (((w.alloc o1).alloc o2).alloc o3).alloc o4 = w' := by
  have H := Lib.hid h
  cases hv : fcV a b dg
  · generalize hx : fc a b now dg = x
    have hx0 : x = -1 := by rw [← hx]; exact fc_no hv
    have hn : x < 0 := by omega
    have HX := Lib.hid hx
    clear hx h hx0 hv
    go_enter Try.func17, Try.ntmps17
    go_wp2_with (first | (go_at_call 15; refine (ifc_any _ _ _ _ _).mono ?_; rw [HX.out]; rintro e w1 ⟨rfl, o1, o2, rfl⟩) | (go_at_call 32; refine (within_any _ _ _ _).mono ?_; rintro e w' ⟨rfl, rfl⟩))
    all_goals go_returns
    all_goals exact ⟨ret_kp (kf_no H.out).1 (kf_no H.out).2, _, _, _, _, rfl⟩
  · generalize hx : fc a b now dg = x
    have hn : 0 ≤ x := by rw [← hx]; exact fc_pos hv
    have HX := Lib.hid hx
    simp only [kfV, hv, Bool.true_and] at h
    cases h2 : wi now 0 1000000
    · clear hx h hv
      go_enter Try.func17, Try.ntmps17
      go_wp2_with (first | (go_at_call 15; refine (ifc_any _ _ _ _ _).mono ?_; rw [HX.out]; rintro e w1 ⟨rfl, o1, o2, rfl⟩) | (go_at_call 32; refine (within_any _ _ _ _).mono ?_; rintro e w' ⟨rfl, rfl⟩))
      all_goals go_returns
      all_goals exact ⟨ret_kp (kf_no H.out).1 (kf_no H.out).2, _, _, _, _, rfl⟩
    · simp only [h2, Bool.true_and] at h
      clear hx hv
      go_enter Try.func17, Try.ntmps17
      go_wp2_with (first | (go_at_call 15; refine (ifc_any _ _ _ _ _).mono ?_; rw [HX.out]; rintro e w1 ⟨rfl, o1, o2, rfl⟩) | (go_at_call 32; refine (within_any _ _ _ _).mono ?_; rintro e w' ⟨rfl, rfl⟩))
      all_goals go_returns
      all_goals exact ⟨ret_kp (kf_no H.out).1 (kf_no H.out).2, _, _, _, _, rfl⟩
theorem ikf_yes (a b now dg long : Int) (w : World) (h : kfV a b now dg long = true) :
    Calls Try.prog 17 #[kp a b, .int .i64 now, .int .i64 dg, .int .i64 long] w fun e w' => e = .returned (kp (kfA a b now dg long) (kfB a b now dg long)) ∧ ∃ o1 o2 o3 o4, (((w.alloc o1).alloc o2).alloc o3).alloc o4 = w' := by
  have H := Lib.hid h
  simp only [kfV, Bool.and_eq_true] at h
  obtain ⟨⟨hv, h2⟩, h3⟩ := h
  obtain ⟨h4, h5⟩ := wi_iff.1 h2
  obtain ⟨h6, h7⟩ := wi_iff.1 h3
  generalize hx : fc a b now dg = x
  have hn : 0 ≤ x := by rw [← hx]; exact fc_pos hv
  clear hv
  by_cases h0 : x = 0
  · have HX := Lib.hid hx
    have H0 := Lib.hid h0
    have h8 : (x == 0) = true := by simp [h0]
    clear hx h0
    go_enter Try.func17, Try.ntmps17
    go_wp2_with (first | (go_at_call 15; refine (ifc_any _ _ _ _ _).mono ?_; rw [HX.out]; rintro e w1 ⟨rfl, o1, o2, rfl⟩) | (go_at_call 32; refine (within_any _ _ _ _).mono ?_; rintro e w' ⟨rfl, rfl⟩))
    all_goals go_returns
    all_goals exact ⟨ret_kp (kf_0 H.out (HX.out.trans H0.out)).1 (kf_0 H.out (HX.out.trans H0.out)).2, _, _, _, _, rfl⟩
  · have HX := Lib.hid hx
    have h8 : (x == 0) = false := by simp [h0]
    have H0 := Lib.hid h0
    clear hx h0
    go_enter Try.func17, Try.ntmps17
    go_wp2_with (first | (go_at_call 15; refine (ifc_any _ _ _ _ _).mono ?_; rw [HX.out]; rintro e w1 ⟨rfl, o1, o2, rfl⟩) | (go_at_call 32; refine (within_any _ _ _ _).mono ?_; rintro e w' ⟨rfl, rfl⟩))
    all_goals go_returns
    all_goals exact ⟨ret_kp (kf_1 H.out (by rw [HX.out]; exact H0.out)).1 (kf_1 H.out (by rw [HX.out]; exact H0.out)).2, _, _, _, _, rfl⟩
theorem ikf_any (a b now dg long : Int) (w : World) :
    Calls Try.prog 17 #[kp a b, .int .i64 now, .int .i64 dg, .int .i64 long] w fun e w' => e = .returned (kp (kfA a b now dg long) (kfB a b now dg long)) ∧ ∃ o1 o2 o3 o4, (((w.alloc o1).alloc o2).alloc o3).alloc o4 = w' := by
  cases h : kfV a b now dg long
  · exact ikf_no a b now dg long w h
  · exact ikf_yes a b now dg long w h
theorem skf_no (a b now dg long : Int) (w : World) (h : kfV a b now dg long = false) :
    Calls Try.prog 16 #[kp a b, .int .i64 now, .int .i64 dg, .int .i64 long] w fun e w' => e = .returned (kp (kfA a b now dg long) (kfB a b now dg long)) ∧ ∃ o1 o2 o3 o4, (((w.alloc o1).alloc o2).alloc o3).alloc o4 = w' := by
  have H := Lib.hid h
  cases hv : fcV a b dg
  · generalize hx : fc a b now dg = x
    have hx0 : x = -1 := by rw [← hx]; exact fc_no hv
    have hn : x < 0 := by omega
    have HX := Lib.hid hx
    clear hx h hx0 hv
    go_enter Try.func16, Try.ntmps16
    go_wp2_with (first | (go_at_call 14; refine (sfc_any _ _ _ _ _).mono ?_; rw [HX.out]; rintro e w1 ⟨rfl, o1, o2, rfl⟩) | (go_at_call 31; refine (l1In_any _ _ _ _).mono ?_; rintro e w' ⟨rfl, rfl⟩))
    all_goals go_returns
    all_goals exact ⟨ret_kp (kf_no H.out).1 (kf_no H.out).2, _, _, _, _, rfl⟩
  · generalize hx : fc a b now dg = x
    have hn : 0 ≤ x := by rw [← hx]; exact fc_pos hv
    have HX := Lib.hid hx
    simp only [kfV, hv, Bool.true_and] at h
    cases h2 : wi now 0 1000000
    · clear hx h hv
      go_enter Try.func16, Try.ntmps16
      go_wp2_with (first | (go_at_call 14; refine (sfc_any _ _ _ _ _).mono ?_; rw [HX.out]; rintro e w1 ⟨rfl, o1, o2, rfl⟩) | (go_at_call 31; refine (l1In_any _ _ _ _).mono ?_; rintro e w' ⟨rfl, rfl⟩))
      all_goals go_returns
      all_goals exact ⟨ret_kp (kf_no H.out).1 (kf_no H.out).2, _, _, _, _, rfl⟩
    · simp only [h2, Bool.true_and] at h
      clear hx hv
      go_enter Try.func16, Try.ntmps16
      go_wp2_with (first | (go_at_call 14; refine (sfc_any _ _ _ _ _).mono ?_; rw [HX.out]; rintro e w1 ⟨rfl, o1, o2, rfl⟩) | (go_at_call 31; refine (l1In_any _ _ _ _).mono ?_; rintro e w' ⟨rfl, rfl⟩))
      all_goals go_returns
      all_goals exact ⟨ret_kp (kf_no H.out).1 (kf_no H.out).2, _, _, _, _, rfl⟩
theorem skf_yes (a b now dg long : Int) (w : World) (h : kfV a b now dg long = true) :
    Calls Try.prog 16 #[kp a b, .int .i64 now, .int .i64 dg, .int .i64 long] w fun e w' => e = .returned (kp (kfA a b now dg long) (kfB a b now dg long)) ∧ ∃ o1 o2 o3 o4, (((w.alloc o1).alloc o2).alloc o3).alloc o4 = w' := by
  have H := Lib.hid h
  simp only [kfV, Bool.and_eq_true] at h
  obtain ⟨⟨hv, h2⟩, h3⟩ := h
  obtain ⟨h4, h5⟩ := wi_iff.1 h2
  obtain ⟨h6, h7⟩ := wi_iff.1 h3
  generalize hx : fc a b now dg = x
  have hn : 0 ≤ x := by rw [← hx]; exact fc_pos hv
  clear hv
  by_cases h0 : x = 0
  · have HX := Lib.hid hx
    have H0 := Lib.hid h0
    have h8 : (x == 0) = true := by simp [h0]
    clear hx h0
    go_enter Try.func16, Try.ntmps16
    go_wp2_with (first | (go_at_call 14; refine (sfc_any _ _ _ _ _).mono ?_; rw [HX.out]; rintro e w1 ⟨rfl, o1, o2, rfl⟩) | (go_at_call 31; refine (l1In_any _ _ _ _).mono ?_; rintro e w' ⟨rfl, rfl⟩))
    all_goals go_returns
    all_goals exact ⟨ret_kp (kf_0 H.out (HX.out.trans H0.out)).1 (kf_0 H.out (HX.out.trans H0.out)).2, _, _, _, _, rfl⟩
  · have HX := Lib.hid hx
    have h8 : (x == 0) = false := by simp [h0]
    have H0 := Lib.hid h0
    clear hx h0
    go_enter Try.func16, Try.ntmps16
    go_wp2_with (first | (go_at_call 14; refine (sfc_any _ _ _ _ _).mono ?_; rw [HX.out]; rintro e w1 ⟨rfl, o1, o2, rfl⟩) | (go_at_call 31; refine (l1In_any _ _ _ _).mono ?_; rintro e w' ⟨rfl, rfl⟩))
    all_goals go_returns
    all_goals exact ⟨ret_kp (kf_1 H.out (by rw [HX.out]; exact H0.out)).1 (kf_1 H.out (by rw [HX.out]; exact H0.out)).2, _, _, _, _, rfl⟩
theorem skf_any (a b now dg long : Int) (w : World) :
    Calls Try.prog 16 #[kp a b, .int .i64 now, .int .i64 dg, .int .i64 long] w fun e w' => e = .returned (kp (kfA a b now dg long) (kfB a b now dg long)) ∧ ∃ o1 o2 o3 o4, (((w.alloc o1).alloc o2).alloc o3).alloc o4 = w' := by
  cases h : kfV a b now dg long
  · exact skf_no a b now dg long w h
  · exact skf_yes a b now dg long w h

theorem exKeptValid (a b : Int) (w : World) :
    Calls Try.prog 3 #[kp a b] w fun e w' => e = .returned (.bool true) ∧ Below w.heap.size w w' := by
  go_enter Try.func3, Try.ntmps3
  go_wp2_with (first | (go_at_call 12; refine (tok_any _ _ _).mono ?_; rintro e w1 ⟨rfl, o1, o2, o3, rfl⟩) | (go_at_call 13; refine (ikv_any _ _ _).mono ?_; rintro e w1 ⟨rfl, rfl⟩) | (go_at_call 11; refine (skv_any _ _ _).mono ?_; rintro e w1 ⟨rfl, rfl⟩))
  go_ret
  exact ⟨rfl, by go_grown⟩
theorem exFetchCode (a b now dg : Int) (w : World) :
    Calls Try.prog 4 #[kp a b, .int .i64 now, .int .i64 dg] w fun e w' => e = .returned (.bool true) ∧ Below w.heap.size w w' := by
  go_enter Try.func4, Try.ntmps4
  go_wp2_with (first | (go_at_call 12; refine (tok_any _ _ _).mono ?_; rintro e w1 ⟨rfl, o1, o2, o3, rfl⟩) | (go_at_call 15; refine (ifc_any _ _ _ _ _).mono ?_; rintro e w1 ⟨rfl, o1, o2, rfl⟩) | (go_at_call 14; refine (sfc_any _ _ _ _ _).mono ?_; rintro e w1 ⟨rfl, o1, o2, rfl⟩))
  go_ret
  exact ⟨rfl, by go_grown⟩
theorem exKeepFetch (a b now dg long : Int) (w : World) :
    Calls Try.prog 5 #[kp a b, .int .i64 now, .int .i64 dg, .int .i64 long] w fun e w' => e = .returned (.bool true) ∧ Below w.heap.size w w' := by
  go_enter Try.func5, Try.ntmps5
  go_wp2_with (first | (go_at_call 12; refine (tok_any _ _ _).mono ?_; rintro e w1 ⟨rfl, o1, o2, o3, rfl⟩) | (go_at_call 17; refine (ikf_any _ _ _ _ _ _).mono ?_; rintro e w1 ⟨rfl, o1, o2, o3, o4, rfl⟩) | (go_at_call 16; refine (skf_any _ _ _ _ _ _).mono ?_; rintro e w1 ⟨rfl, o1, o2, o3, o4, rfl⟩) | (go_at_call 18; refine (eqk_same _ _ _).mono ?_; rintro e w1 ⟨rfl, o1, o2, rfl⟩))
  go_ret
  exact ⟨rfl, by go_grown⟩
end Go.Proofs.Ytgbbobpakjlddaa
