/-
  The contracts of ReadyAt and AskBucket.
-/
import Derived.Test.YtkdogkpdgpppkaaBucket
namespace Go.Proofs.Ytkdogkpdgpppkaa
open Go.ChangeShapes Go.WideShapes Go.ChangeAt Go.RowKit Go.Joins
set_option linter.unusedVariables false

def rdyV (a b c d much : Int) : Bool := bkV a b c d && wi much 1 b
/-- When there is as much, unbounded. -/
def rdyW (a c d much : Int) : Int := if a < much then d + (much - a + c - 1) / c else d
def rdy (a c d much : Int) : Int := if 1000000 < rdyW a c d much then -1 else rdyW a c d much

theorem rdy_q {a b c d much : Int} (h : rdyV a b c d much = true) (hl : a < much) : 0 ≤ (much - a + c - 1) / c ∧ (much - a + c - 1) / c ≤ 2000 := by
  simp only [rdyV, Bool.and_eq_true] at h
  obtain ⟨h1, h2⟩ := h
  obtain ⟨⟨hb1, hb2⟩, ⟨ha1, ha2⟩, ⟨hc1, hc2⟩, hd1, hd2⟩ := bkV_iff.1 h1
  obtain ⟨hn1, hn2⟩ := wi_iff.1 h2
  have hn : 0 ≤ much - a + c - 1 := by omega
  refine ⟨Int.ediv_nonneg hn (by omega), ?_⟩
  have := Int.ediv_le_self c hn
  omega
theorem rdy1 {a c d much : Int} (h : a < much) (h2 : 1000000 < d + (much - a + c - 1) / c) : -1 = rdy a c d much := by unfold rdy rdyW; rw [if_pos h, if_pos h2]
theorem rdy2 {a c d much : Int} (h : a < much) (h2 : d + (much - a + c - 1) / c ≤ 1000000) : d + (much - a + c - 1) / c = rdy a c d much := by unfold rdy rdyW; rw [if_pos h, if_neg (by omega)]
theorem rdy3 {a c d much : Int} (h : ¬ a < much) (h2 : d ≤ 1000000) : d = rdy a c d much := by unfold rdy rdyW; rw [if_neg h, if_neg (by omega)]

theorem ira_no1 (a b c d much : Int) (w : World) (h1 : bkV a b c d = false) :
    Calls Try.prog 18 #[bk a b c d, .int .i64 much] w fun e w' => e = .returned (.int .i64 (-1)) ∧ ∃ o1 o2, (w.alloc o1).alloc o2 = w' := by
  go_enter Try.func18, Try.ntmps18
  go_wp2_with (first | (go_at_call 13; refine (ibv_any _ _ _ _ _).mono ?_; rintro e w1 ⟨rfl, rfl⟩) | (go_at_call 27; refine (within_any _ _ _ _).mono ?_; rintro e w' ⟨rfl, rfl⟩))
  all_goals go_ret
  all_goals exact ⟨rfl, _, _, rfl⟩
theorem ira_no2 (a b c d much : Int) (w : World) (h1 : bkV a b c d = true) (h2 : wi much 1 b = false) :
    Calls Try.prog 18 #[bk a b c d, .int .i64 much] w fun e w' => e = .returned (.int .i64 (-1)) ∧ ∃ o1 o2, (w.alloc o1).alloc o2 = w' := by
  go_enter Try.func18, Try.ntmps18
  go_wp2_with (first | (go_at_call 13; refine (ibv_any _ _ _ _ _).mono ?_; rintro e w1 ⟨rfl, rfl⟩) | (go_at_call 27; refine (within_any _ _ _ _).mono ?_; rintro e w' ⟨rfl, rfl⟩))
  all_goals go_ret
  all_goals exact ⟨rfl, _, _, rfl⟩
theorem ira_no (a b c d much : Int) (w : World) (h : rdyV a b c d much = false) :
    Calls Try.prog 18 #[bk a b c d, .int .i64 much] w fun e w' => e = .returned (.int .i64 (-1)) ∧ ∃ o1 o2, (w.alloc o1).alloc o2 = w' := by
  cases h1 : bkV a b c d
  · exact ira_no1 a b c d much w h1
  · exact ira_no2 a b c d much w h1 (by simpa [rdyV, h1] using h)
theorem sra_no1 (a b c d much : Int) (w : World) (h1 : bkV a b c d = false) :
    Calls Try.prog 17 #[bk a b c d, .int .i64 much] w fun e w' => e = .returned (.int .i64 (-1)) ∧ ∃ o1 o2, (w.alloc o1).alloc o2 = w' := by
  go_enter Try.func17, Try.ntmps17
  go_wp2_with (first | (go_at_call 11; refine (sbv_any _ _ _ _ _).mono ?_; rintro e w1 ⟨rfl, rfl⟩) | (go_at_call 26; refine (l1In_any _ _ _ _).mono ?_; rintro e w' ⟨rfl, rfl⟩))
  all_goals go_ret
  all_goals exact ⟨rfl, _, _, rfl⟩
theorem sra_no2 (a b c d much : Int) (w : World) (h1 : bkV a b c d = true) (h2 : wi much 1 b = false) :
    Calls Try.prog 17 #[bk a b c d, .int .i64 much] w fun e w' => e = .returned (.int .i64 (-1)) ∧ ∃ o1 o2, (w.alloc o1).alloc o2 = w' := by
  go_enter Try.func17, Try.ntmps17
  go_wp2_with (first | (go_at_call 11; refine (sbv_any _ _ _ _ _).mono ?_; rintro e w1 ⟨rfl, rfl⟩) | (go_at_call 26; refine (l1In_any _ _ _ _).mono ?_; rintro e w' ⟨rfl, rfl⟩))
  all_goals go_ret
  all_goals exact ⟨rfl, _, _, rfl⟩
theorem sra_no (a b c d much : Int) (w : World) (h : rdyV a b c d much = false) :
    Calls Try.prog 17 #[bk a b c d, .int .i64 much] w fun e w' => e = .returned (.int .i64 (-1)) ∧ ∃ o1 o2, (w.alloc o1).alloc o2 = w' := by
  cases h1 : bkV a b c d
  · exact sra_no1 a b c d much w h1
  · exact sra_no2 a b c d much w h1 (by simpa [rdyV, h1] using h)
theorem ira_yes (a b c d much : Int) (w : World) (h : rdyV a b c d much = true) :
    Calls Try.prog 18 #[bk a b c d, .int .i64 much] w fun e w' => e = .returned (.int .i64 (rdy a c d much)) ∧ ∃ o1 o2, (w.alloc o1).alloc o2 = w' := by
  have hq := rdy_q h
  have hh := h
  simp only [rdyV, Bool.and_eq_true] at hh
  obtain ⟨h1, h2⟩ := hh
  obtain ⟨⟨hb1, hb2⟩, ⟨ha1, ha2⟩, ⟨hc1, hc2⟩, hd1, hd2⟩ := bkV_iff.1 h1
  obtain ⟨hn1, hn2⟩ := wi_iff.1 h2
  clear h
  by_cases hl : a < much
  · obtain ⟨hq1, hq2⟩ := hq hl
    clear hq
    go_enter Try.func18, Try.ntmps18
    go_wp2_with (first | (go_at_call 13; refine (ibv_any _ _ _ _ _).mono ?_; rintro e w1 ⟨rfl, rfl⟩) | (go_at_call 27; refine (within_any _ _ _ _).mono ?_; rintro e w' ⟨rfl, rfl⟩))
    all_goals go_ret
    all_goals exact ⟨ret_int (by first | exact rdy1 hl (by assumption) | exact rdy2 hl (by assumption)), _, _, rfl⟩
  · clear hq
    go_enter Try.func18, Try.ntmps18
    go_wp2_with (first | (go_at_call 13; refine (ibv_any _ _ _ _ _).mono ?_; rintro e w1 ⟨rfl, rfl⟩) | (go_at_call 27; refine (within_any _ _ _ _).mono ?_; rintro e w' ⟨rfl, rfl⟩))
    all_goals go_ret
    all_goals exact ⟨ret_int (rdy3 (by omega) hd2), _, _, rfl⟩
theorem sra_yes (a b c d much : Int) (w : World) (h : rdyV a b c d much = true) :
    Calls Try.prog 17 #[bk a b c d, .int .i64 much] w fun e w' => e = .returned (.int .i64 (rdy a c d much)) ∧ ∃ o1 o2 n, ((w.alloc o1).alloc o2).drewN n = w' := by
  have hq := rdy_q h
  have hh := h
  simp only [rdyV, Bool.and_eq_true] at hh
  obtain ⟨h1, h2⟩ := hh
  obtain ⟨⟨hb1, hb2⟩, ⟨ha1, ha2⟩, ⟨hc1, hc2⟩, hd1, hd2⟩ := bkV_iff.1 h1
  obtain ⟨hn1, hn2⟩ := wi_iff.1 h2
  clear h
  by_cases hl : a < much
  · obtain ⟨hq1, hq2⟩ := hq hl
    clear hq
    go_enter Try.func17, Try.ntmps17
    go_wp2_with (first | (go_at_call 11; refine (sbv_any _ _ _ _ _).mono ?_; rintro e w1 ⟨rfl, rfl⟩) | (go_at_call 26; refine (l1In_any _ _ _ _).mono ?_; rintro e w' ⟨rfl, rfl⟩))
    go_quiet (fail)
    go_wp2
    all_goals go_ret
    all_goals exact ⟨ret_int (by first | exact rdy1 hl (by assumption) | exact rdy2 hl (by assumption)), _, _, _, rfl⟩
  · clear hq
    go_enter Try.func17, Try.ntmps17
    go_wp2_with (first | (go_at_call 11; refine (sbv_any _ _ _ _ _).mono ?_; rintro e w1 ⟨rfl, rfl⟩) | (go_at_call 26; refine (l1In_any _ _ _ _).mono ?_; rintro e w' ⟨rfl, rfl⟩))
    all_goals go_ret
    all_goals exact ⟨ret_int (rdy3 (by omega) hd2), _, _, 0, rfl⟩
def askV (a b c d now much : Int) : Bool := fillV a b c d now && wi much 1 1000
/-- A bucket and a bool. -/
abbrev bkb (a b c d : Int) (ok : Bool) : Value := .tuple #[bk a b c d, .bool ok]

theorem iab_no1 (a b c d now much : Int) (w : World) (h1 : bkV a b c d = false) :
    Calls Try.prog 20 #[bk a b c d, .int .i64 now, .int .i64 much] w fun e w' => e = .returned (bkb 0 0 0 0 false) ∧ ∃ o1 o2 o3, ((w.alloc o1).alloc o2).alloc o3 = w' := by
  go_enter Try.func20, Try.ntmps20
  go_wp2_with (first | (go_at_call 13; refine (ibv_any _ _ _ _ _).mono ?_; rintro e w1 ⟨rfl, rfl⟩) | (go_at_call 27; refine (within_any _ _ _ _).mono ?_; rintro e w' ⟨rfl, rfl⟩))
  all_goals go_returns
  all_goals exact ⟨rfl, _, _, _, rfl⟩
theorem iab_no2 (a b c d now much : Int) (w : World) (h1 : bkV a b c d = true) (h2 : wi now d 1000000 = false) :
    Calls Try.prog 20 #[bk a b c d, .int .i64 now, .int .i64 much] w fun e w' => e = .returned (bkb 0 0 0 0 false) ∧ ∃ o1 o2 o3, ((w.alloc o1).alloc o2).alloc o3 = w' := by
  go_enter Try.func20, Try.ntmps20
  go_wp2_with (first | (go_at_call 13; refine (ibv_any _ _ _ _ _).mono ?_; rintro e w1 ⟨rfl, rfl⟩) | (go_at_call 27; refine (within_any _ _ _ _).mono ?_; rintro e w' ⟨rfl, rfl⟩))
  all_goals go_returns
  all_goals exact ⟨rfl, _, _, _, rfl⟩
theorem iab_no3 (a b c d now much : Int) (w : World) (h1 : bkV a b c d = true) (h2 : wi now d 1000000 = true) (h3 : wi much 1 1000 = false) :
    Calls Try.prog 20 #[bk a b c d, .int .i64 now, .int .i64 much] w fun e w' => e = .returned (bkb 0 0 0 0 false) ∧ ∃ o1 o2 o3, ((w.alloc o1).alloc o2).alloc o3 = w' := by
  go_enter Try.func20, Try.ntmps20
  go_wp2_with (first | (go_at_call 13; refine (ibv_any _ _ _ _ _).mono ?_; rintro e w1 ⟨rfl, rfl⟩) | (go_at_call 27; refine (within_any _ _ _ _).mono ?_; rintro e w' ⟨rfl, rfl⟩))
  all_goals go_returns
  all_goals exact ⟨rfl, _, _, _, rfl⟩
theorem iab_no (a b c d now much : Int) (w : World) (h : askV a b c d now much = false) :
    Calls Try.prog 20 #[bk a b c d, .int .i64 now, .int .i64 much] w fun e w' => e = .returned (bkb 0 0 0 0 false) ∧ ∃ o1 o2 o3, ((w.alloc o1).alloc o2).alloc o3 = w' := by
  cases h1 : bkV a b c d
  · exact iab_no1 a b c d now much w h1
  · cases h2 : wi now d 1000000
    · exact iab_no2 a b c d now much w h1 h2
    · exact iab_no3 a b c d now much w h1 h2 (by simpa [askV, fillV, h1, h2] using h)

theorem ask_facts {a b c d now much : Int} (h : askV a b c d now much = true) : fillV a b c d now = true ∧ bkV a b c d = true ∧ wi now d 1000000 = true ∧ wi much 1 1000 = true ∧ 0 ≤ fillH a b c d now ∧ fillH a b c d now ≤ 1000 ∧ 1 ≤ much ∧ much ≤ 1000 := by
  simp only [askV, Bool.and_eq_true] at h
  obtain ⟨h1, h2⟩ := h
  obtain ⟨h3, h4, hm1, hm2⟩ := fill_facts h1
  obtain ⟨⟨hb1, hb2⟩, ⟨ha1, ha2⟩, ⟨hc1, hc2⟩, hd1, hd2⟩ := bkV_iff.1 h3
  have := wi_iff.1 h2
  refine ⟨h1, h3, h4, h2, ?_, ?_, this.1, this.2⟩ <;> unfold fillH <;> omega

theorem iab_some (a b c d now much : Int) (w : World) (h : askV a b c d now much = true) (hl : much ≤ fillH a b c d now) :
    Calls Try.prog 20 #[bk a b c d, .int .i64 now, .int .i64 much] w fun e w' => e = .returned (bkb (fillH a b c d now - much) b c now true) ∧ ∃ o1 o2 o3 o4 o5 o6, (((((w.alloc o1).alloc o2).alloc o3).alloc o4).alloc o5).alloc o6 = w' := by
  obtain ⟨h1, h2, h3, h4, h5, h6, h7, h8⟩ := ask_facts h
  clear h
  have H1 := Lib.hid h1; clear h1
  generalize hx : fillH a b c d now = x at *
  have HX := Lib.hid hx; clear hx
  go_enter Try.func20, Try.ntmps20
  go_wp2_with (first | (go_at_call 13; refine (ibv_any _ _ _ _ _).mono ?_; rintro e w1 ⟨rfl, rfl⟩) | (go_at_call 27; refine (within_any _ _ _ _).mono ?_; rintro e w' ⟨rfl, rfl⟩) | (go_at_call 15; refine (ifb_yes _ _ _ _ _ _ H1.out).mono ?_; rw [HX.out]; rintro e w1 ⟨rfl, o1, o2, o3, rfl⟩))
  all_goals go_returns
  all_goals exact ⟨rfl, _, _, _, _, _, _, rfl⟩

theorem iab_none (a b c d now much : Int) (w : World) (h : askV a b c d now much = true) (hl : fillH a b c d now < much) :
    Calls Try.prog 20 #[bk a b c d, .int .i64 now, .int .i64 much] w fun e w' => e = .returned (bkb (fillH a b c d now) b c now false) ∧ ∃ o1 o2 o3 o4 o5 o6, (((((w.alloc o1).alloc o2).alloc o3).alloc o4).alloc o5).alloc o6 = w' := by
  obtain ⟨h1, h2, h3, h4, h5, h6, h7, h8⟩ := ask_facts h
  clear h
  have H1 := Lib.hid h1; clear h1
  generalize hx : fillH a b c d now = x at *
  have HX := Lib.hid hx; clear hx
  go_enter Try.func20, Try.ntmps20
  go_wp2_with (first | (go_at_call 13; refine (ibv_any _ _ _ _ _).mono ?_; rintro e w1 ⟨rfl, rfl⟩) | (go_at_call 27; refine (within_any _ _ _ _).mono ?_; rintro e w' ⟨rfl, rfl⟩) | (go_at_call 15; refine (ifb_yes _ _ _ _ _ _ H1.out).mono ?_; rw [HX.out]; rintro e w1 ⟨rfl, o1, o2, o3, rfl⟩))
  all_goals go_returns
  all_goals exact ⟨rfl, _, _, _, _, _, _, rfl⟩

theorem sab_no1 (a b c d now much : Int) (w : World) (h : fillV a b c d now = false) :
    Calls Try.prog 19 #[bk a b c d, .int .i64 now, .int .i64 much] w fun e w' => e = .returned (bkb 0 0 0 0 false) ∧ ∃ o1 o2 o3 o4 o5 o6, (((((w.alloc o1).alloc o2).alloc o3).alloc o4).alloc o5).alloc o6 = w' := by
  have H1 := Lib.hid h; clear h
  go_enter Try.func19, Try.ntmps19
  go_wp2_with (first | (go_at_call 26; refine (l1In_any _ _ _ _).mono ?_; rintro e w' ⟨rfl, rfl⟩) | (go_at_call 14; refine (sfb_no _ _ _ _ _ _ H1.out).mono ?_; rintro e w1 ⟨rfl, o1, o2, o3, rfl⟩))
  all_goals go_returns
  all_goals exact ⟨rfl, _, _, _, _, _, _, rfl⟩
theorem sab_no2 (a b c d now much : Int) (w : World) (h : fillV a b c d now = true) (h2 : wi much 1 1000 = false) :
    Calls Try.prog 19 #[bk a b c d, .int .i64 now, .int .i64 much] w fun e w' => e = .returned (bkb 0 0 0 0 false) ∧ ∃ o1 o2 o3 o4 o5 o6, (((((w.alloc o1).alloc o2).alloc o3).alloc o4).alloc o5).alloc o6 = w' := by
  have H1 := Lib.hid h; clear h
  have h3 := (bkV_iff.1 (fill_facts H1.out).1).1.1
  go_enter Try.func19, Try.ntmps19
  go_wp2_with (first | (go_at_call 26; refine (l1In_any _ _ _ _).mono ?_; rintro e w' ⟨rfl, rfl⟩) | (go_at_call 14; refine (sfb_yes _ _ _ _ _ _ H1.out).mono ?_; rintro e w1 ⟨rfl, o1, o2, o3, rfl⟩))
  all_goals go_returns
  all_goals exact ⟨rfl, _, _, _, _, _, _, rfl⟩
theorem sab_no (a b c d now much : Int) (w : World) (h : askV a b c d now much = false) :
    Calls Try.prog 19 #[bk a b c d, .int .i64 now, .int .i64 much] w fun e w' => e = .returned (bkb 0 0 0 0 false) ∧ ∃ o1 o2 o3 o4 o5 o6, (((((w.alloc o1).alloc o2).alloc o3).alloc o4).alloc o5).alloc o6 = w' := by
  cases h1 : fillV a b c d now
  · exact sab_no1 a b c d now much w h1
  · exact sab_no2 a b c d now much w h1 (by simpa [askV, h1] using h)
theorem sab_some (a b c d now much : Int) (w : World) (h : askV a b c d now much = true) (hl : much ≤ fillH a b c d now) :
    Calls Try.prog 19 #[bk a b c d, .int .i64 now, .int .i64 much] w fun e w' => e = .returned (bkb (fillH a b c d now - much) b c now true) ∧ ∃ o1 o2 o3 o4 o5 o6, (((((w.alloc o1).alloc o2).alloc o3).alloc o4).alloc o5).alloc o6 = w' := by
  obtain ⟨h1, h2, h3, h4, h5, h6, h7, h8⟩ := ask_facts h
  clear h
  have h9 := (bkV_iff.1 h2).1.1
  have H1 := Lib.hid h1; clear h1
  generalize hx : fillH a b c d now = x at *
  have HX := Lib.hid hx; clear hx
  go_enter Try.func19, Try.ntmps19
  go_wp2_with (first | (go_at_call 26; refine (l1In_any _ _ _ _).mono ?_; rintro e w' ⟨rfl, rfl⟩) | (go_at_call 14; refine (sfb_yes _ _ _ _ _ _ H1.out).mono ?_; rw [HX.out]; rintro e w1 ⟨rfl, o1, o2, o3, rfl⟩))
  all_goals go_returns
  all_goals exact ⟨rfl, _, _, _, _, _, _, rfl⟩
theorem sab_none (a b c d now much : Int) (w : World) (h : askV a b c d now much = true) (hl : fillH a b c d now < much) :
    Calls Try.prog 19 #[bk a b c d, .int .i64 now, .int .i64 much] w fun e w' => e = .returned (bkb (fillH a b c d now) b c now false) ∧ ∃ o1 o2 o3 o4 o5 o6, (((((w.alloc o1).alloc o2).alloc o3).alloc o4).alloc o5).alloc o6 = w' := by
  obtain ⟨h1, h2, h3, h4, h5, h6, h7, h8⟩ := ask_facts h
  clear h
  have h9 := (bkV_iff.1 h2).1.1
  have H1 := Lib.hid h1; clear h1
  generalize hx : fillH a b c d now = x at *
  have HX := Lib.hid hx; clear hx
  go_enter Try.func19, Try.ntmps19
  go_wp2_with (first | (go_at_call 26; refine (l1In_any _ _ _ _).mono ?_; rintro e w' ⟨rfl, rfl⟩) | (go_at_call 14; refine (sfb_yes _ _ _ _ _ _ H1.out).mono ?_; rw [HX.out]; rintro e w1 ⟨rfl, o1, o2, o3, rfl⟩))
  all_goals go_returns
  all_goals exact ⟨rfl, _, _, _, _, _, _, rfl⟩
end Go.Proofs.Ytkdogkpdgpppkaa
