/-
  The contracts of BlockHits; the walk of its exact law.
-/
import Derived.Test.YtajfglcoigklnaaBase
namespace Go.Proofs.Ytajfglcoigklnaa
open Go.ChangeShapes Go.WideShapes Go.ChangeAt Go.RowKit Go.Joins
set_option linter.unusedVariables false

/-- A block as a value. -/
abbrev bv (s : ByteArray) (ends only : Bool) : Value := .agg #[.string s, .bool ends, .bool only]
def sufB (h s : ByteArray) : Bool := decide (s.size ≤ h.size) && ((h.extract (h.size - s.size) h.size).toList == s.toList)
def bhB (s : ByteArray) (ends : Bool) (h : ByteArray) : Bool := if ends = true then sufB h s else s.toList == h.toList
theorem sufB_yes {h s : ByteArray} (hl : s.size ≤ h.size) : ((h.extract (h.size - s.size) h.size).toList == s.toList) = sufB h s := by simp [sufB, hl]
theorem sufB_no {h s : ByteArray} (hl : h.size < s.size) : false = sufB h s := by
  unfold sufB; rw [decide_eq_false (by omega)]; rfl

theorem isuf_any (h s : ByteArray) (w : World) (hh : h.size ≤ maxLen) (hs : s.size ≤ maxLen) :
    Calls Try.prog 39 #[.string h, .string s] w fun e w' => e = .returned (.bool (sufB h s)) ∧ w = w' := by
  unfold maxLen at hh hs
  by_cases hl : s.size ≤ h.size
  · go_enter Try.func39, Try.ntmps39
    go_wp2
    go_ret
    exact ⟨ret_bool (sufB_yes hl), rfl⟩
  · go_enter Try.func39, Try.ntmps39
    go_wp2
    go_ret
    exact ⟨ret_bool (sufB_no (by omega)), rfl⟩
theorem ibh_any (s : ByteArray) (ends only : Bool) (h : ByteArray) (w : World) (hh : h.size ≤ maxLen) (hs : s.size ≤ maxLen) :
    Calls Try.prog 14 #[bv s ends only, .string h] w fun e w' => e = .returned (.bool (bhB s ends h)) ∧ ∃ o, w.alloc o = w' := by
  cases ends
  · go_enter Try.func14, Try.ntmps14
    go_wp2
    go_ret
    exact ⟨ret_bool (by simp [bhB]), _, rfl⟩
  · have HH := Lib.hid hh; have HS := Lib.hid hs; clear hh hs
    generalize hx : sufB h s = x
    have HX := Lib.hid hx
    have HY : Hid (bhB s true h = x) := by rw [← hx]; exact Lib.hid (by simp [bhB])
    clear hx
    go_enter Try.func14, Try.ntmps14
    go_wp2_with (go_at_call 39; refine (isuf_any _ _ _ HH.out HS.out).mono ?_; rw [HX.out]; rintro e w1 ⟨rfl, rfl⟩)
    go_ret
    exact ⟨ret_bool HY.out.symm, _, rfl⟩
theorem sbh_any (s : ByteArray) (ends only : Bool) (h : ByteArray) (w : World) (hh : h.size ≤ maxLen) (hs : s.size ≤ maxLen) :
    Calls Try.prog 12 #[bv s ends only, .string h] w fun e w' => e = .returned (.bool (bhB s ends h)) ∧ ∃ o n, (w.alloc o).drewN n = w' := by
  cases ends
  · go_enter Try.func12, Try.ntmps12
    go_wp2
    go_ret
    exact ⟨ret_bool (by simp [bhB]), _, 0, rfl⟩
  · unfold maxLen at hh hs
    have HY : bhB s true h = sufB h s := by simp [bhB]
    have HY := Lib.hid HY
    by_cases hl : s.size ≤ h.size
    · have hd : decide (s.size ≤ h.size) = true := by simpa using hl
      have i1 : (0 : Int) ≤ (h.size : Int) - (s.size : Int) := by omega
      have i2 : (h.size : Int) - (s.size : Int) ≤ (h.size : Int) := by omega
      go_enter Try.func12, Try.ntmps12
      go_wp2
      go_quiet (fail)
      go_wp2
      go_ret
      exact ⟨ret_bool (by rw [HY.out]; exact sufB_yes hl), _, _, rfl⟩
    · have hd : decide (s.size ≤ h.size) = false := by simp; omega
      go_enter Try.func12, Try.ntmps12
      go_wp2
      go_quiet (fail)
      go_wp2
      go_ret
      exact ⟨ret_bool (by rw [HY.out]; exact sufB_no (by omega)), _, _, rfl⟩

theorem tobl_any (s : ByteArray) (f u : Bool) (w : World) :
    Calls Try.prog 13 #[bv s f u] w fun e w' => e = .returned (bv s f u) ∧ ∃ o1 o2 o3, ((w.alloc o1).alloc o2).alloc o3 = w' := by
  go_enter Try.func13, Try.ntmps13
  go_wp2
  go_returns
  exact ⟨rfl, _, _, _, rfl⟩
theorem szb_any (s : ByteArray) (f u : Bool) (l : Int) (w : World) (h : (s.size : Int) ≤ l) (hl : l ≤ 1048576) :
    Calls Try.prog 11 #[bv s f u, .int .i64 l] w fun e w' => e = .returned (.int .i64 (l - (s.size : Int))) ∧ ∃ o1, w.alloc o1 = w' := by
  go_enter Try.func11, Try.ntmps11
  go_wp2
  go_ret
  exact ⟨rfl, _, rfl⟩
theorem szb_no (s : ByteArray) (f u : Bool) (l : Int) (w : World) (h : l < (s.size : Int)) (hs : (s.size : Int) ≤ 9223372036854775807) (hl : l ≤ 1048576) (hl0 : 0 ≤ l) :
    Calls Try.prog 11 #[bv s f u, .int .i64 l] w fun e w' => e = .returned (.int .i64 (-1)) ∧ ∃ o1, w.alloc o1 = w' := by
  go_enter Try.func11, Try.ntmps11
  go_wp2
  go_ret
  exact ⟨rfl, _, rfl⟩

theorem exBlockHits (s : ByteArray) (hs : s.size ≤ maxLen) (f u : Bool) (h : ByteArray) (hh : h.size ≤ maxLen) (w : World) :
    Calls Try.prog 3 #[bv s f u, .string h] w fun e w' => e = .returned (.bool true) ∧ Below w.heap.size w w' := by
  have HS := Lib.hid hs; have HH := Lib.hid hh
  unfold maxLen at hs hh
  have hs' : (s.size : Int) ≤ 9223372036854775807 := by omega
  have HX := Lib.hid hs'; clear hs hs'
  by_cases h1 : (h.size : Int) ≤ 1048576
  · by_cases hl : (s.size : Int) ≤ 1048576
    · generalize hx : bhB s f h = x
      have HB := Lib.hid hx; clear hx
      go_enter Try.func3, Try.ntmps3
      go_wp2_with (first | (go_at_call 11; refine (szb_any _ _ _ _ _ hl (by omega)).mono ?_; rintro e w1 ⟨rfl, o1, rfl⟩) | (go_at_call 13; refine (tobl_any _ _ _ _).mono ?_; rintro e w1 ⟨rfl, o1, o2, o3, rfl⟩) | (go_at_call 14; refine (ibh_any _ _ _ _ _ HH.out HS.out).mono ?_; rw [HB.out]; rintro e w1 ⟨rfl, o, rfl⟩) | (go_at_call 12; refine (sbh_any _ _ _ _ _ HH.out HS.out).mono ?_; rw [HB.out]; rintro e w1 ⟨rfl, o, n, rfl⟩))
      go_ret
      refine ⟨rfl, ?_⟩
      go_grown
      refine bdN ?_ _
      go_grown
    · have hl' : (1048576 : Int) < (s.size : Int) := by omega
      have HL := Lib.hid hl'; clear hl hl'
      go_enter Try.func3, Try.ntmps3
      go_wp2_with (first | (go_at_call 11; refine (szb_no _ _ _ _ _ HL.out HX.out (by omega) (by omega)).mono ?_; rintro e w1 ⟨rfl, o1, rfl⟩))
      go_ret
      exact ⟨rfl, by go_grown⟩
  · go_enter Try.func3, Try.ntmps3
    go_wp2
    go_ret
    exact ⟨rfl, by go_grown⟩
end Go.Proofs.Ytajfglcoigklnaa
