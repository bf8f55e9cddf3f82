/-
  The walks of the exact laws of HostValid, MayTry and HostStep.
-/
import Derived.Test.YtkdpambhdjinjaaHost2
namespace Go.Proofs.Ytkdpambhdjinjaa
open Go.ChangeShapes Go.WideShapes Go.ChangeAt Go.RowKit Go.Joins
set_option linter.unusedVariables false

theorem exHostValid (s : ByteArray) (hs : s.size ≤ maxLen) (f u : Int) (w : World) :
    Calls Try.prog 3 #[sv s f u] w fun e w' => e = .returned (.bool true) ∧ Below w.heap.size w w' := by
  have HS := Lib.hid hs
  unfold maxLen at hs
  by_cases hl : (s.size : Int) ≤ 1048576
  · go_enter Try.func3, Try.ntmps3
    go_wp2_with (first | (go_at_call 11; refine (szs_any _ _ _ _ hl).mono ?_; rintro e w1 ⟨rfl, o1, rfl⟩) | (go_at_call 13; refine (tos_any _ _ _ _).mono ?_; rintro e w1 ⟨rfl, o1, o2, o3, rfl⟩) | (go_at_call 14; refine (ihv_any _ _ _ _ HS.out).mono ?_; rintro e w1 ⟨rfl, rfl⟩) | (go_at_call 12; refine (shv_any _ _ _ _ HS.out).mono ?_; rintro e w1 ⟨rfl, rfl⟩))
    go_ret
    exact ⟨rfl, by go_grown⟩
  · have hl' : (1048576 : Int) < (s.size : Int) := by omega
    have hs' : (s.size : Int) ≤ 9223372036854775807 := by omega
    have HL := Lib.hid hl'; have HX := Lib.hid hs'; clear hl hl' hs hs'
    go_enter Try.func3, Try.ntmps3
    go_wp2_with (first | (go_at_call 11; refine (szs_no _ _ _ _ HL.out HX.out).mono ?_; rintro e w1 ⟨rfl, o1, rfl⟩))
    go_ret
    exact ⟨rfl, by go_grown⟩

theorem exMayTry (s : ByteArray) (hs : s.size ≤ maxLen) (f u now : Int) (w : World) :
    Calls Try.prog 4 #[sv s f u, .int .i64 now] w fun e w' => e = .returned (.bool true) ∧ Below w.heap.size w w' := by
  have HS := Lib.hid hs
  unfold maxLen at hs
  by_cases hl : (s.size : Int) ≤ 1048576
  · go_enter Try.func4, Try.ntmps4
    go_wp2_with (first | (go_at_call 11; refine (szs_any _ _ _ _ hl).mono ?_; rintro e w1 ⟨rfl, o1, rfl⟩) | (go_at_call 13; refine (tos_any _ _ _ _).mono ?_; rintro e w1 ⟨rfl, o1, o2, o3, rfl⟩) | (go_at_call 16; refine (imt_any _ _ _ _ _ HS.out).mono ?_; rintro e w1 ⟨rfl, o1, o2, rfl⟩) | (go_at_call 15; refine (smt_any _ _ _ _ _ HS.out).mono ?_; rintro e w1 ⟨rfl, o1, o2, rfl⟩))
    go_ret
    exact ⟨rfl, by go_grown⟩
  · have hl' : (1048576 : Int) < (s.size : Int) := by omega
    have hs' : (s.size : Int) ≤ 9223372036854775807 := by omega
    have HL := Lib.hid hl'; have HX := Lib.hid hs'; clear hl hl' hs hs'
    go_enter Try.func4, Try.ntmps4
    go_wp2_with (first | (go_at_call 11; refine (szs_no _ _ _ _ HL.out HX.out).mono ?_; rintro e w1 ⟨rfl, o1, rfl⟩))
    go_ret
    exact ⟨rfl, by go_grown⟩

theorem exHostStep (s : ByteArray) (hs : s.size ≤ maxLen) (f u now : Int) (good : Bool) (w : World) :
    Calls Try.prog 7 #[sv s f u, .int .i64 now, .bool good] w fun e w' => e = .returned (.bool true) ∧ Below w.heap.size w w' := by
  have HS := Lib.hid hs
  unfold maxLen at hs
  by_cases hl : (s.size : Int) ≤ 1048576
  · cases hv : stV s f u now
    · have HV := Lib.hid hv; clear hv
      go_enter Try.func7, Try.ntmps7
      go_wp2_with (first | (go_at_call 11; refine (szs_any _ _ _ _ hl).mono ?_; rintro e w1 ⟨rfl, o1, rfl⟩) | (go_at_call 13; refine (tos_any _ _ _ _).mono ?_; rintro e w1 ⟨rfl, o1, o2, o3, rfl⟩) | (go_at_call 21; refine (ist_no _ _ _ _ _ _ HS.out HV.out).mono ?_; rintro e w1 ⟨rfl, o1, o2, o3, rfl⟩) | (go_at_call 20; refine (sst_no _ _ _ _ _ _ HS.out HV.out).mono ?_; rintro e w1 ⟨rfl, o1, o2, o3, rfl⟩) | (go_at_call 22; refine (eqs_same _ _ _ _).mono ?_; rintro e w1 ⟨rfl, o1, o2, rfl⟩))
      go_ret
      exact ⟨rfl, by go_grown⟩
    · have HV := Lib.hid hv; clear hv
      cases good
      · generalize hx : stF f false = x
        generalize hy : stU f now false = y
        have HX := Lib.hid hx; have HY := Lib.hid hy; clear hx hy
        go_enter Try.func7, Try.ntmps7
        go_wp2_with (first | (go_at_call 11; refine (szs_any _ _ _ _ hl).mono ?_; rintro e w1 ⟨rfl, o1, rfl⟩) | (go_at_call 13; refine (tos_any _ _ _ _).mono ?_; rintro e w1 ⟨rfl, o1, o2, o3, rfl⟩) | (go_at_call 21; refine (ist_bad _ _ _ _ _ HS.out HV.out).mono ?_; rw [HX.out, HY.out]; rintro e w1 ⟨rfl, o1, o2, o3, rfl⟩) | (go_at_call 20; refine (sst_bad _ _ _ _ _ HS.out HV.out).mono ?_; rw [HX.out, HY.out]; rintro e w1 ⟨rfl, o1, o2, o3, o4, rfl⟩) | (go_at_call 22; refine (eqs_same _ _ _ _).mono ?_; rintro e w1 ⟨rfl, o1, o2, rfl⟩))
        go_ret
        exact ⟨rfl, by go_grown⟩
      · generalize hx : stF f true = x
        generalize hy : stU f now true = y
        have HX := Lib.hid hx; have HY := Lib.hid hy; clear hx hy
        go_enter Try.func7, Try.ntmps7
        go_wp2_with (first | (go_at_call 11; refine (szs_any _ _ _ _ hl).mono ?_; rintro e w1 ⟨rfl, o1, rfl⟩) | (go_at_call 13; refine (tos_any _ _ _ _).mono ?_; rintro e w1 ⟨rfl, o1, o2, o3, rfl⟩) | (go_at_call 21; refine (ist_good _ _ _ _ _ HS.out HV.out).mono ?_; rw [HX.out, HY.out]; rintro e w1 ⟨rfl, o1, o2, o3, rfl⟩) | (go_at_call 20; refine (sst_good _ _ _ _ _ HS.out HV.out).mono ?_; rw [HX.out, HY.out]; rintro e w1 ⟨rfl, o1, o2, o3, rfl⟩) | (go_at_call 22; refine (eqs_same _ _ _ _).mono ?_; rintro e w1 ⟨rfl, o1, o2, rfl⟩))
        go_ret
        exact ⟨rfl, by go_grown⟩
  · have hl' : (1048576 : Int) < (s.size : Int) := by omega
    have hs' : (s.size : Int) ≤ 9223372036854775807 := by omega
    have HL := Lib.hid hl'; have HX := Lib.hid hs'; clear hl hl' hs hs'
    go_enter Try.func7, Try.ntmps7
    go_wp2_with (first | (go_at_call 11; refine (szs_no _ _ _ _ HL.out HX.out).mono ?_; rintro e w1 ⟨rfl, o1, rfl⟩))
    go_ret
    exact ⟨rfl, by go_grown⟩
end Go.Proofs.Ytkdpambhdjinjaa
