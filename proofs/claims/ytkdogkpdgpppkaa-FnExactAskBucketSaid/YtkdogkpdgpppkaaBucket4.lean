/-
  The walks of two exact laws of buckets: ReadyAt and AskBucket.
-/
import Derived.Test.YtkdogkpdgpppkaaBucket3
namespace Go.Proofs.Ytkdogkpdgpppkaa
open Go.ChangeShapes Go.WideShapes Go.ChangeAt Go.RowKit Go.Joins
set_option linter.unusedVariables false

theorem exReadyAt (a b c d much : Int) (w : World) :
    Calls Try.prog 5 #[bk a b c d, .int .i64 much] w fun e w' => e = .returned (.bool true) ∧ Below w.heap.size w w' := by
  cases h : rdyV a b c d much
  · have H := Lib.hid h; clear h
    go_enter Try.func5, Try.ntmps5
    go_wp2_with (first | (go_at_call 12; refine (tob_any _ _ _ _ _).mono ?_; rintro e w1 ⟨rfl, o1, o2, o3, rfl⟩) | (go_at_call 18; refine (ira_no _ _ _ _ _ _ H.out).mono ?_; rintro e w1 ⟨rfl, o1, o2, rfl⟩) | (go_at_call 17; refine (sra_no _ _ _ _ _ _ H.out).mono ?_; rintro e w1 ⟨rfl, o1, o2, rfl⟩))
    go_ret
    exact ⟨rfl, by go_grown⟩
  · have H := Lib.hid h; clear h
    go_enter Try.func5, Try.ntmps5
    go_wp2_with (first | (go_at_call 12; refine (tob_any _ _ _ _ _).mono ?_; rintro e w1 ⟨rfl, o1, o2, o3, rfl⟩) | (go_at_call 18; refine (ira_yes _ _ _ _ _ _ H.out).mono ?_; rintro e w1 ⟨rfl, o1, o2, rfl⟩) | (go_at_call 17; refine (sra_yes _ _ _ _ _ _ H.out).mono ?_; rintro e w1 ⟨rfl, o1, o2, n, rfl⟩))
    go_ret
    refine ⟨rfl, ?_⟩
    go_grown
    refine bdN ?_ _
    go_grown

theorem exAskBucket (a b c d now much : Int) (w : World) :
    Calls Try.prog 6 #[bk a b c d, .int .i64 now, .int .i64 much] w fun e w' => e = .returned (.bool true) ∧ Below w.heap.size w w' := by
  cases h : askV a b c d now much
  · have H := Lib.hid h; clear h
    go_enter Try.func6, Try.ntmps6
    go_wp2_with (first | (go_at_call 12; refine (tob_any _ _ _ _ _).mono ?_; rintro e w1 ⟨rfl, o1, o2, o3, rfl⟩) | (go_at_call 20; refine (iab_no _ _ _ _ _ _ _ H.out).mono ?_; rintro e w1 ⟨rfl, o1, o2, o3, rfl⟩) | (go_at_call 19; refine (sab_no _ _ _ _ _ _ _ H.out).mono ?_; rintro e w1 ⟨rfl, o1, o2, o3, o4, o5, o6, rfl⟩) | (go_at_call 16; refine (eqb_same _ _ _ _ _).mono ?_; rintro e w1 ⟨rfl, o1, o2, rfl⟩))
    go_ret
    exact ⟨rfl, by go_grown⟩
  · by_cases hl : much ≤ fillH a b c d now
    · have H := Lib.hid h; clear h
      have HL := Lib.hid hl; clear hl
      go_enter Try.func6, Try.ntmps6
      go_wp2_with (first | (go_at_call 12; refine (tob_any _ _ _ _ _).mono ?_; rintro e w1 ⟨rfl, o1, o2, o3, rfl⟩) | (go_at_call 20; refine (iab_some _ _ _ _ _ _ _ H.out HL.out).mono ?_; rintro e w1 ⟨rfl, o1, o2, o3, o4, o5, o6, rfl⟩) | (go_at_call 19; refine (sab_some _ _ _ _ _ _ _ H.out HL.out).mono ?_; rintro e w1 ⟨rfl, o1, o2, o3, o4, o5, o6, rfl⟩) | (go_at_call 16; refine (eqb_same _ _ _ _ _).mono ?_; rintro e w1 ⟨rfl, o1, o2, rfl⟩))
      go_ret
      exact ⟨rfl, by go_grown⟩
    · have hl := Int.not_le.1 hl
      have H := Lib.hid h; clear h
      have HL := Lib.hid hl; clear hl
      go_enter Try.func6, Try.ntmps6
      go_wp2_with (first | (go_at_call 12; refine (tob_any _ _ _ _ _).mono ?_; rintro e w1 ⟨rfl, o1, o2, o3, rfl⟩) | (go_at_call 20; refine (iab_none _ _ _ _ _ _ _ H.out HL.out).mono ?_; rintro e w1 ⟨rfl, o1, o2, o3, o4, o5, o6, rfl⟩) | (go_at_call 19; refine (sab_none _ _ _ _ _ _ _ H.out HL.out).mono ?_; rintro e w1 ⟨rfl, o1, o2, o3, o4, o5, o6, rfl⟩) | (go_at_call 16; refine (eqb_same _ _ _ _ _).mono ?_; rintro e w1 ⟨rfl, o1, o2, rfl⟩))
      go_ret
      exact ⟨rfl, by go_grown⟩
end Go.Proofs.Ytkdogkpdgpppkaa
