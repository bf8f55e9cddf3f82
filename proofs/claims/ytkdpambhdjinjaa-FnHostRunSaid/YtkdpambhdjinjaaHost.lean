/-
  The contracts of hosts.
-/
import Derived.Test.YtkdpambhdjinjaaWordS
namespace Go.Proofs.Ytkdpambhdjinjaa
open Go.ChangeShapes Go.WideShapes Go.ChangeAt Go.RowKit Go.Joins
set_option linter.unusedVariables false

/-- A host as a value. -/
abbrev sv (s : ByteArray) (f u : Int) : Value := .agg #[.string s, .int .i64 f, .int .i64 u]
def hvB (s : ByteArray) (f u : Int) : Bool := wvB s && wi f 0 20 && wi u 0 1000000000 && (u == 0 || decide (3 ≤ f))
theorem hvB_iff {s : ByteArray} {f u : Int} : hvB s f u = true ↔ wvB s = true ∧ (0 ≤ f ∧ f ≤ 20) ∧ (0 ≤ u ∧ u ≤ 1000000000) ∧ (u = 0 ∨ 3 ≤ f) := by
  simp [hvB, wi_iff, and_assoc]

theorem ihv_any (s : ByteArray) (f u : Int) (w : World) (hs : s.size ≤ maxLen) :
    Calls Try.prog 14 #[sv s f u] w fun e w' => e = .returned (.bool (hvB s f u)) ∧ w.alloc (.cells #[.string s, .int .i64 f, .int .i64 u] 26) = w' := by
  have HS := Lib.hid hs; clear hs
  cases h1 : wvB s
  all_goals cases h2 : wi f 0 20
  all_goals cases h3 : wi u 0 1000000000
  all_goals cases h4 : (u == 0)
  all_goals cases h5 : decide (3 ≤ f)
  all_goals
    go_enter Try.func14, Try.ntmps14
    go_wp2_with (first | (go_at_call 33; refine (iwv_any _ _ HS.out).mono ?_; rintro e w' ⟨rfl, rfl⟩) | (go_at_call 34; refine (within_any _ _ _ _).mono ?_; rintro e w' ⟨rfl, rfl⟩))
    go_ret
    exact ⟨ret_bool (by simp [hvB, h1, h2, h3, h4, h5]), rfl⟩

theorem shv_any (s : ByteArray) (f u : Int) (w : World) (hs : s.size ≤ maxLen) :
    Calls Try.prog 12 #[sv s f u] w fun e w' => e = .returned (.bool (hvB s f u)) ∧ w.alloc (.cells #[.string s, .int .i64 f, .int .i64 u] 26) = w' := by
  have HS := Lib.hid hs; clear hs
  cases h1 : wvB s
  all_goals cases h2 : wi f 0 20
  all_goals cases h3 : wi u 0 1000000000
  all_goals cases h4 : (u == 0)
  all_goals cases h5 : decide (3 ≤ f)
  all_goals
    go_enter Try.func12, Try.ntmps12
    go_wp2_with (first | (go_at_call 31; refine (swv_any _ _ HS.out).mono ?_; rintro e w' ⟨rfl, rfl⟩) | (go_at_call 32; refine (l1In_any _ _ _ _).mono ?_; rintro e w' ⟨rfl, rfl⟩))
    go_ret
    exact ⟨ret_bool (by simp [hvB, h1, h2, h3, h4, h5]), rfl⟩

theorem tos_any (s : ByteArray) (f u : Int) (w : World) :
    Calls Try.prog 13 #[sv s f u] w fun e w' => e = .returned (sv s f u) ∧ ∃ o1 o2 o3, ((w.alloc o1).alloc o2).alloc o3 = w' := by
  go_enter Try.func13, Try.ntmps13
  go_wp2
  go_returns
  exact ⟨rfl, _, _, _, rfl⟩
theorem eqs_same (s : ByteArray) (f u : Int) (w : World) :
    Calls Try.prog 22 #[sv s f u, sv s f u] w fun e w' => e = .returned (.bool true) ∧ ∃ o1 o2, (w.alloc o1).alloc o2 = w' := by
  go_enter Try.func22, Try.ntmps22
  go_wp2
  go_ret
  exact ⟨rfl, _, _, rfl⟩
theorem szs_any (s : ByteArray) (f u : Int) (w : World) (h : (s.size : Int) ≤ 1048576) :
    Calls Try.prog 11 #[sv s f u, .int .i64 1048576] w fun e w' => e = .returned (.int .i64 (1048576 - (s.size : Int))) ∧ ∃ o1, w.alloc o1 = w' := by
  go_enter Try.func11, Try.ntmps11
  go_wp2
  go_ret
  exact ⟨rfl, _, rfl⟩
theorem szs_no (s : ByteArray) (f u : Int) (w : World) (h : 1048576 < (s.size : Int)) (hs : (s.size : Int) ≤ 9223372036854775807) :
    Calls Try.prog 11 #[sv s f u, .int .i64 1048576] w fun e w' => e = .returned (.int .i64 (-1)) ∧ ∃ o1, w.alloc o1 = w' := by
  go_enter Try.func11, Try.ntmps11
  go_wp2
  go_ret
  exact ⟨rfl, _, rfl⟩
end Go.Proofs.Ytkdpambhdjinjaa
