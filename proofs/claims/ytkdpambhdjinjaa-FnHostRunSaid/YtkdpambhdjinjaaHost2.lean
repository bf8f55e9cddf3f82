/-
  The contracts of MayTry and HostStep, and the walks of three exact laws of hosts.
-/
import Derived.Test.YtkdpambhdjinjaaHost
namespace Go.Proofs.Ytkdpambhdjinjaa
open Go.ChangeShapes Go.WideShapes Go.ChangeAt Go.RowKit Go.Joins
set_option linter.unusedVariables false

def mtB (s : ByteArray) (f u now : Int) : Bool := hvB s f u && decide (u ≤ now)
theorem imt_any (s : ByteArray) (f u now : Int) (w : World) (hs : s.size ≤ maxLen) :
    Calls Try.prog 16 #[sv s f u, .int .i64 now] w fun e w' => e = .returned (.bool (mtB s f u now)) ∧ ∃ o1 o2, (w.alloc o1).alloc o2 = w' := by
  have HS := Lib.hid hs; clear hs
  cases h1 : hvB s f u
  all_goals cases h2 : decide (u ≤ now)
  all_goals
    go_enter Try.func16, Try.ntmps16
    go_wp2_with (first | (go_at_call 14; refine (ihv_any _ _ _ _ HS.out).mono ?_; rintro e w' ⟨rfl, rfl⟩))
    go_ret
    exact ⟨ret_bool (by simp [mtB, h1, h2]), _, _, rfl⟩
theorem smt_any (s : ByteArray) (f u now : Int) (w : World) (hs : s.size ≤ maxLen) :
    Calls Try.prog 15 #[sv s f u, .int .i64 now] w fun e w' => e = .returned (.bool (mtB s f u now)) ∧ ∃ o1 o2, (w.alloc o1).alloc o2 = w' := by
  have HS := Lib.hid hs; clear hs
  cases h1 : hvB s f u
  all_goals cases h2 : decide (u ≤ now)
  all_goals
    go_enter Try.func15, Try.ntmps15
    go_wp2_with (first | (go_at_call 12; refine (shv_any _ _ _ _ HS.out).mono ?_; rintro e w' ⟨rfl, rfl⟩))
    go_ret
    exact ⟨ret_bool (by simp [mtB, h1, h2]), _, _, rfl⟩

def stF (f : Int) (good : Bool) : Int := if good = true then 0 else min (f + 1) 20
def stU (f now : Int) (good : Bool) : Int := if good = true then 0 else if 3 ≤ f + 1 then now + 100 * min (f + 1) 20 else 0
theorem ret_sv {s : ByteArray} {f u f' u' : Int} (h1 : f = f') (h2 : u = u') : Ending.returned (sv s f u) = .returned (sv s f' u') := by rw [h1, h2]
def stV (s : ByteArray) (f u now : Int) : Bool := hvB s f u && wi now 0 1000000

theorem ist_no1 (s : ByteArray) (f u now : Int) (good : Bool) (w : World) (hs : s.size ≤ maxLen) (h : hvB s f u = false) :
    Calls Try.prog 21 #[sv s f u, .int .i64 now, .bool good] w fun e w' => e = .returned (sv ⟨#[]⟩ 0 0) ∧ ∃ o1 o2 o3, ((w.alloc o1).alloc o2).alloc o3 = w' := by
  have HS := Lib.hid hs; clear hs
  go_enter Try.func21, Try.ntmps21
  go_wp2_with (first | (go_at_call 14; refine (ihv_any _ _ _ _ HS.out).mono ?_; rintro e w' ⟨rfl, rfl⟩) | (go_at_call 34; refine (within_any _ _ _ _).mono ?_; rintro e w' ⟨rfl, rfl⟩))
  go_returns
  exact ⟨rfl, _, _, _, rfl⟩
theorem ist_no2 (s : ByteArray) (f u now : Int) (good : Bool) (w : World) (hs : s.size ≤ maxLen) (h : hvB s f u = true) (h2 : wi now 0 1000000 = false) :
    Calls Try.prog 21 #[sv s f u, .int .i64 now, .bool good] w fun e w' => e = .returned (sv ⟨#[]⟩ 0 0) ∧ ∃ o1 o2 o3, ((w.alloc o1).alloc o2).alloc o3 = w' := by
  have HS := Lib.hid hs; clear hs
  go_enter Try.func21, Try.ntmps21
  go_wp2_with (first | (go_at_call 14; refine (ihv_any _ _ _ _ HS.out).mono ?_; rintro e w' ⟨rfl, rfl⟩) | (go_at_call 34; refine (within_any _ _ _ _).mono ?_; rintro e w' ⟨rfl, rfl⟩))
  go_returns
  exact ⟨rfl, _, _, _, rfl⟩
theorem ist_no (s : ByteArray) (f u now : Int) (good : Bool) (w : World) (hs : s.size ≤ maxLen) (h : stV s f u now = false) :
    Calls Try.prog 21 #[sv s f u, .int .i64 now, .bool good] w fun e w' => e = .returned (sv ⟨#[]⟩ 0 0) ∧ ∃ o1 o2 o3, ((w.alloc o1).alloc o2).alloc o3 = w' := by
  cases h1 : hvB s f u
  · exact ist_no1 s f u now good w hs h1
  · exact ist_no2 s f u now good w hs h1 (by simpa [stV, h1] using h)
theorem ist_good (s : ByteArray) (f u now : Int) (w : World) (hs : s.size ≤ maxLen) (h : stV s f u now = true) :
    Calls Try.prog 21 #[sv s f u, .int .i64 now, .bool true] w fun e w' => e = .returned (sv s (stF f true) (stU f now true)) ∧ ∃ o1 o2 o3, ((w.alloc o1).alloc o2).alloc o3 = w' := by
  have HS := Lib.hid hs; clear hs
  simp only [stV, Bool.and_eq_true] at h
  obtain ⟨h1, h2⟩ := h
  go_enter Try.func21, Try.ntmps21
  go_wp2_with (first | (go_at_call 14; refine (ihv_any _ _ _ _ HS.out).mono ?_; rintro e w' ⟨rfl, rfl⟩) | (go_at_call 34; refine (within_any _ _ _ _).mono ?_; rintro e w' ⟨rfl, rfl⟩))
  go_returns
  exact ⟨rfl, _, _, _, rfl⟩
theorem sst_no1 (s : ByteArray) (f u now : Int) (good : Bool) (w : World) (hs : s.size ≤ maxLen) (h : hvB s f u = false) :
    Calls Try.prog 20 #[sv s f u, .int .i64 now, .bool good] w fun e w' => e = .returned (sv ⟨#[]⟩ 0 0) ∧ ∃ o1 o2 o3, ((w.alloc o1).alloc o2).alloc o3 = w' := by
  have HS := Lib.hid hs; clear hs
  go_enter Try.func20, Try.ntmps20
  go_wp2_with (first | (go_at_call 12; refine (shv_any _ _ _ _ HS.out).mono ?_; rintro e w' ⟨rfl, rfl⟩) | (go_at_call 32; refine (l1In_any _ _ _ _).mono ?_; rintro e w' ⟨rfl, rfl⟩))
  go_returns
  exact ⟨rfl, _, _, _, rfl⟩
theorem sst_no2 (s : ByteArray) (f u now : Int) (good : Bool) (w : World) (hs : s.size ≤ maxLen) (h : hvB s f u = true) (h2 : wi now 0 1000000 = false) :
    Calls Try.prog 20 #[sv s f u, .int .i64 now, .bool good] w fun e w' => e = .returned (sv ⟨#[]⟩ 0 0) ∧ ∃ o1 o2 o3, ((w.alloc o1).alloc o2).alloc o3 = w' := by
  have HS := Lib.hid hs; clear hs
  go_enter Try.func20, Try.ntmps20
  go_wp2_with (first | (go_at_call 12; refine (shv_any _ _ _ _ HS.out).mono ?_; rintro e w' ⟨rfl, rfl⟩) | (go_at_call 32; refine (l1In_any _ _ _ _).mono ?_; rintro e w' ⟨rfl, rfl⟩))
  go_returns
  exact ⟨rfl, _, _, _, rfl⟩
theorem sst_no (s : ByteArray) (f u now : Int) (good : Bool) (w : World) (hs : s.size ≤ maxLen) (h : stV s f u now = false) :
    Calls Try.prog 20 #[sv s f u, .int .i64 now, .bool good] w fun e w' => e = .returned (sv ⟨#[]⟩ 0 0) ∧ ∃ o1 o2 o3, ((w.alloc o1).alloc o2).alloc o3 = w' := by
  cases h1 : hvB s f u
  · exact sst_no1 s f u now good w hs h1
  · exact sst_no2 s f u now good w hs h1 (by simpa [stV, h1] using h)
theorem sst_good (s : ByteArray) (f u now : Int) (w : World) (hs : s.size ≤ maxLen) (h : stV s f u now = true) :
    Calls Try.prog 20 #[sv s f u, .int .i64 now, .bool true] w fun e w' => e = .returned (sv s (stF f true) (stU f now true)) ∧ ∃ o1 o2 o3, ((w.alloc o1).alloc o2).alloc o3 = w' := by
  have HS := Lib.hid hs; clear hs
  simp only [stV, Bool.and_eq_true] at h
  obtain ⟨h1, h2⟩ := h
  go_enter Try.func20, Try.ntmps20
  go_wp2_with (first | (go_at_call 12; refine (shv_any _ _ _ _ HS.out).mono ?_; rintro e w' ⟨rfl, rfl⟩) | (go_at_call 32; refine (l1In_any _ _ _ _).mono ?_; rintro e w' ⟨rfl, rfl⟩))
  go_returns
  exact ⟨rfl, _, _, _, rfl⟩
/-- How many new blocks the reference's step lays where the try failed. -/
theorem ist_bad (s : ByteArray) (f u now : Int) (w : World) (hs : s.size ≤ maxLen) (h : stV s f u now = true) :
    Calls Try.prog 21 #[sv s f u, .int .i64 now, .bool false] w fun e w' => e = .returned (sv s (stF f false) (stU f now false)) ∧ ∃ o1 o2 o3, ((w.alloc o1).alloc o2).alloc o3 = w' := by
  have HS := Lib.hid hs; clear hs
  simp only [stV, Bool.and_eq_true] at h
  obtain ⟨h1, h2⟩ := h
  obtain ⟨h3, ⟨hf1, hf2⟩, ⟨hu1, hu2⟩, hfu⟩ := hvB_iff.1 h1
  obtain ⟨hn1, hn2⟩ := wi_iff.1 h2
  have HU := Lib.hid hfu; clear hfu
  go_enter Try.func21, Try.ntmps21
  go_wp2_with (first | (go_at_call 14; refine (ihv_any _ _ _ _ HS.out).mono ?_; rintro e w' ⟨rfl, rfl⟩) | (go_at_call 34; refine (within_any _ _ _ _).mono ?_; rintro e w' ⟨rfl, rfl⟩))
  all_goals go_returns
  all_goals exact ⟨ret_sv (by have := HU.out; simp only [stF, Bool.false_eq_true, if_false]; omega) (by have := HU.out; simp only [stU, Bool.false_eq_true, if_false]; split <;> omega), _, _, _, rfl⟩
theorem sst_bad (s : ByteArray) (f u now : Int) (w : World) (hs : s.size ≤ maxLen) (h : stV s f u now = true) :
    Calls Try.prog 20 #[sv s f u, .int .i64 now, .bool false] w fun e w' => e = .returned (sv s (stF f false) (stU f now false)) ∧ ∃ o1 o2 o3 o4, (((w.alloc o1).alloc o2).alloc o3).alloc o4 = w' := by
  have HS := Lib.hid hs; clear hs
  simp only [stV, Bool.and_eq_true] at h
  obtain ⟨h1, h2⟩ := h
  obtain ⟨h3, ⟨hf1, hf2⟩, ⟨hu1, hu2⟩, hfu⟩ := hvB_iff.1 h1
  obtain ⟨hn1, hn2⟩ := wi_iff.1 h2
  have HU := Lib.hid hfu; clear hfu
  go_enter Try.func20, Try.ntmps20
  go_wp2_with (first | (go_at_call 12; refine (shv_any _ _ _ _ HS.out).mono ?_; rintro e w' ⟨rfl, rfl⟩) | (go_at_call 32; refine (l1In_any _ _ _ _).mono ?_; rintro e w' ⟨rfl, rfl⟩))
  all_goals go_returns
  all_goals exact ⟨ret_sv (by have := HU.out; simp only [stF, Bool.false_eq_true, if_false]; omega) (by have := HU.out; simp only [stU, Bool.false_eq_true, if_false]; split <;> omega), _, _, _, _, rfl⟩
end Go.Proofs.Ytkdpambhdjinjaa
