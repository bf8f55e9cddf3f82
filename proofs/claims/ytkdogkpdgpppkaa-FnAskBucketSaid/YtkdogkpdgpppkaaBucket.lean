/-
  The contracts of the bucket functions.
-/
import Derived.Test.YtkdogkpdgpppkaaBase
namespace Go.Proofs.Ytkdogkpdgpppkaa
open Go.ChangeShapes Go.WideShapes Go.ChangeAt Go.RowKit Go.Joins
set_option linter.unusedVariables false

def bkV (a b c d : Int) : Bool := wi b 1 1000 && wi a 0 b && wi c 1 1000 && wi d 0 1000000
theorem bkV_iff {a b c d : Int} : bkV a b c d = true ↔ (1 ≤ b ∧ b ≤ 1000) ∧ (0 ≤ a ∧ a ≤ b) ∧ (1 ≤ c ∧ c ≤ 1000) ∧ (0 ≤ d ∧ d ≤ 1000000) := by
  simp [bkV, wi_iff, and_assoc]
/-- A bucket as a value. -/
abbrev bk (a b c d : Int) : Value := .agg #[.int .i64 a, .int .i64 b, .int .i64 c, .int .i64 d]

theorem ibv_any (a b c d : Int) (w : World) :
    Calls Try.prog 13 #[bk a b c d] w fun e w' => e = .returned (.bool (bkV a b c d)) ∧ w.alloc (.cells #[.int .i64 a, .int .i64 b, .int .i64 c, .int .i64 d] 25) = w' := by
  go_enter Try.func13, Try.ntmps13
  go_wp2_with (first | (go_at_call 27; refine (within_any _ _ _ _).mono ?_; rintro e w' ⟨rfl, rfl⟩))
  all_goals (go_ret; exact ⟨ret_bool (by simp [bkV, *]), rfl⟩)

theorem sbv_any (a b c d : Int) (w : World) :
    Calls Try.prog 11 #[bk a b c d] w fun e w' => e = .returned (.bool (bkV a b c d)) ∧ w.alloc (.cells #[.int .i64 a, .int .i64 b, .int .i64 c, .int .i64 d] 25) = w' := by
  go_enter Try.func11, Try.ntmps11
  go_wp2_with (first | (go_at_call 26; refine (l1In_any _ _ _ _).mono ?_; rintro e w' ⟨rfl, rfl⟩))
  all_goals (go_ret; exact ⟨ret_bool (by simp [bkV, *]), rfl⟩)

theorem tob_any (a b c d : Int) (w : World) :
    Calls Try.prog 12 #[bk a b c d] w fun e w' => e = .returned (bk a b c d) ∧ ∃ o1 o2 o3, (((w.alloc o1).alloc o2).alloc o3) = w' := by
  go_enter Try.func12, Try.ntmps12
  go_wp2_with (first | fail)
  all_goals go_returns
  all_goals exact ⟨rfl, _, _, _, rfl⟩

theorem eqb_same (a b c d : Int) (w : World) :
    Calls Try.prog 16 #[bk a b c d, bk a b c d] w fun e w' => e = .returned (.bool true) ∧ ∃ o1 o2, ((w.alloc o1).alloc o2) = w' := by
  go_enter Try.func16, Try.ntmps16
  go_wp2_with (first | fail)
  all_goals go_ret
  all_goals exact ⟨rfl, _, _, rfl⟩

def fillV (a b c d now : Int) : Bool := bkV a b c d && wi now d 1000000
/-- How much is in the bucket after the filling. -/
def fillH (a b c d now : Int) : Int := min (a + c * (now - d)) b
theorem fill_facts {a b c d now : Int} (h : fillV a b c d now = true) : bkV a b c d = true ∧ wi now d 1000000 = true ∧ 0 ≤ c * (now - d) ∧ c * (now - d) ≤ 1000000000 := by
  simp only [fillV, Bool.and_eq_true] at h
  obtain ⟨h1, h2⟩ := h
  obtain ⟨⟨hb1, hb2⟩, ⟨ha1, ha2⟩, ⟨hc1, hc2⟩, hd1, hd2⟩ := bkV_iff.1 h1
  obtain ⟨hn1, hn2⟩ := wi_iff.1 h2
  have hm1 : 0 ≤ c * (now - d) := Int.mul_nonneg (by omega) (by omega)
  have hm2 : c * (now - d) ≤ 1000 * 1000000 := Int.mul_le_mul hc2 (by omega) (by omega) (by omega)
  exact ⟨h1, h2, hm1, by omega⟩
theorem fillH_lo {a b c d now : Int} (h : a + c * (now - d) ≤ b) : a + c * (now - d) = fillH a b c d now := by unfold fillH; omega
theorem fillH_lo' {a b c d now : Int} (h : a + c * (now - d) < b) : a + c * (now - d) = fillH a b c d now := by unfold fillH; omega
theorem fillH_hi {a b c d now : Int} (h : b < a + c * (now - d)) : b = fillH a b c d now := by unfold fillH; omega
theorem fillH_hi' {a b c d now : Int} (h : b ≤ a + c * (now - d)) : b = fillH a b c d now := by unfold fillH; omega
theorem ret_bk {a b c d a' b' c' d' : Int} (h1 : a = a') (h2 : b = b') (h3 : c = c') (h4 : d = d') : Ending.returned (bk a b c d) = .returned (bk a' b' c' d') := by rw [h1, h2, h3, h4]

theorem ifb_yes (a b c d now : Int) (w : World) (h : fillV a b c d now = true) :
    Calls Try.prog 15 #[bk a b c d, .int .i64 now] w fun e w' => e = .returned (bk (fillH a b c d now) b c now) ∧ ∃ o1 o2 o3, (((w.alloc o1).alloc o2).alloc o3) = w' := by
  obtain ⟨h1, h2, hm1, hm2⟩ := fill_facts h
  obtain ⟨⟨hb1, hb2⟩, ⟨ha1, ha2⟩, ⟨hc1, hc2⟩, hd1, hd2⟩ := bkV_iff.1 h1
  obtain ⟨hn1, hn2⟩ := wi_iff.1 h2
  clear h
  go_enter Try.func15, Try.ntmps15
  go_wp2_with (first | (go_at_call 13; refine (ibv_any _ _ _ _ _).mono ?_; rintro e w1 ⟨rfl, rfl⟩) | (go_at_call 27; refine (within_any _ _ _ _).mono ?_; rintro e w' ⟨rfl, rfl⟩))
  all_goals go_returns
  all_goals exact ⟨ret_bk (by first | exact fillH_lo (by assumption) | exact fillH_lo' (by assumption) | exact fillH_hi (by assumption) | exact fillH_hi' (by assumption)) rfl rfl rfl, _, _, _, rfl⟩

theorem sfb_yes (a b c d now : Int) (w : World) (h : fillV a b c d now = true) :
    Calls Try.prog 14 #[bk a b c d, .int .i64 now] w fun e w' => e = .returned (bk (fillH a b c d now) b c now) ∧ ∃ o1 o2 o3, (((w.alloc o1).alloc o2).alloc o3) = w' := by
  obtain ⟨h1, h2, hm1, hm2⟩ := fill_facts h
  obtain ⟨⟨hb1, hb2⟩, ⟨ha1, ha2⟩, ⟨hc1, hc2⟩, hd1, hd2⟩ := bkV_iff.1 h1
  obtain ⟨hn1, hn2⟩ := wi_iff.1 h2
  clear h
  go_enter Try.func14, Try.ntmps14
  go_wp2_with (first | (go_at_call 11; refine (sbv_any _ _ _ _ _).mono ?_; rintro e w1 ⟨rfl, rfl⟩) | (go_at_call 26; refine (l1In_any _ _ _ _).mono ?_; rintro e w' ⟨rfl, rfl⟩))
  all_goals go_returns
  all_goals exact ⟨ret_bk (by first | exact fillH_lo (by assumption) | exact fillH_lo' (by assumption) | exact fillH_hi (by assumption) | exact fillH_hi' (by assumption)) rfl rfl rfl, _, _, _, rfl⟩

theorem ifb_no1 (a b c d now : Int) (w : World) (h : bkV a b c d = false) :
    Calls Try.prog 15 #[bk a b c d, .int .i64 now] w fun e w' => e = .returned (bk 0 0 0 0) ∧ ∃ o1 o2 o3, (((w.alloc o1).alloc o2).alloc o3) = w' := by
  go_enter Try.func15, Try.ntmps15
  go_wp2_with (first | (go_at_call 13; refine (ibv_any _ _ _ _ _).mono ?_; rintro e w1 ⟨rfl, rfl⟩) | (go_at_call 27; refine (within_any _ _ _ _).mono ?_; rintro e w' ⟨rfl, rfl⟩))
  all_goals go_returns
  all_goals exact ⟨rfl, _, _, _, rfl⟩

theorem ifb_no2 (a b c d now : Int) (w : World) (h : bkV a b c d = true) (h2 : wi now d 1000000 = false) :
    Calls Try.prog 15 #[bk a b c d, .int .i64 now] w fun e w' => e = .returned (bk 0 0 0 0) ∧ ∃ o1 o2 o3, (((w.alloc o1).alloc o2).alloc o3) = w' := by
  go_enter Try.func15, Try.ntmps15
  go_wp2_with (first | (go_at_call 13; refine (ibv_any _ _ _ _ _).mono ?_; rintro e w1 ⟨rfl, rfl⟩) | (go_at_call 27; refine (within_any _ _ _ _).mono ?_; rintro e w' ⟨rfl, rfl⟩))
  all_goals go_returns
  all_goals exact ⟨rfl, _, _, _, rfl⟩

theorem sfb_no1 (a b c d now : Int) (w : World) (h : bkV a b c d = false) :
    Calls Try.prog 14 #[bk a b c d, .int .i64 now] w fun e w' => e = .returned (bk 0 0 0 0) ∧ ∃ o1 o2 o3, (((w.alloc o1).alloc o2).alloc o3) = w' := by
  go_enter Try.func14, Try.ntmps14
  go_wp2_with (first | (go_at_call 11; refine (sbv_any _ _ _ _ _).mono ?_; rintro e w1 ⟨rfl, rfl⟩) | (go_at_call 26; refine (l1In_any _ _ _ _).mono ?_; rintro e w' ⟨rfl, rfl⟩))
  all_goals go_returns
  all_goals exact ⟨rfl, _, _, _, rfl⟩

theorem sfb_no2 (a b c d now : Int) (w : World) (h : bkV a b c d = true) (h2 : wi now d 1000000 = false) :
    Calls Try.prog 14 #[bk a b c d, .int .i64 now] w fun e w' => e = .returned (bk 0 0 0 0) ∧ ∃ o1 o2 o3, (((w.alloc o1).alloc o2).alloc o3) = w' := by
  go_enter Try.func14, Try.ntmps14
  go_wp2_with (first | (go_at_call 11; refine (sbv_any _ _ _ _ _).mono ?_; rintro e w1 ⟨rfl, rfl⟩) | (go_at_call 26; refine (l1In_any _ _ _ _).mono ?_; rintro e w' ⟨rfl, rfl⟩))
  all_goals go_returns
  all_goals exact ⟨rfl, _, _, _, rfl⟩

theorem ifb_no (a b c d now : Int) (w : World) (h : fillV a b c d now = false) :
    Calls Try.prog 15 #[bk a b c d, .int .i64 now] w fun e w' => e = .returned (bk 0 0 0 0) ∧ ∃ o1 o2 o3, (((w.alloc o1).alloc o2).alloc o3) = w' := by
  cases h1 : bkV a b c d
  · exact ifb_no1 a b c d now w h1
  · exact ifb_no2 a b c d now w h1 (by simpa [fillV, h1] using h)

theorem sfb_no (a b c d now : Int) (w : World) (h : fillV a b c d now = false) :
    Calls Try.prog 14 #[bk a b c d, .int .i64 now] w fun e w' => e = .returned (bk 0 0 0 0) ∧ ∃ o1 o2 o3, (((w.alloc o1).alloc o2).alloc o3) = w' := by
  cases h1 : bkV a b c d
  · exact sfb_no1 a b c d now w h1
  · exact sfb_no2 a b c d now w h1 (by simpa [fillV, h1] using h)

end Go.Proofs.Ytkdogkpdgpppkaa
