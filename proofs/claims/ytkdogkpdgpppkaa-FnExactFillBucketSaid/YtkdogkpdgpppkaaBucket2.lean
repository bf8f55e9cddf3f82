/-
  The walks of the exact laws of buckets.
-/
import Derived.Test.YtkdogkpdgpppkaaBucket
namespace Go.Proofs.Ytkdogkpdgpppkaa
open Go.ChangeShapes Go.WideShapes Go.ChangeAt Go.RowKit Go.Joins
set_option linter.unusedVariables false

theorem exBucketValid (a b c d : Int) (w : World) :
    Calls Try.prog 3 #[bk a b c d] w fun e w' => e = .returned (.bool true) ∧ Below w.heap.size w w' := by
  go_enter Try.func3, Try.ntmps3
  go_wp2_with (first | (go_at_call 12; refine (tob_any _ _ _ _ _).mono ?_; rintro e w1 ⟨rfl, o1, o2, o3, rfl⟩) | (go_at_call 13; refine (ibv_any _ _ _ _ _).mono ?_; rintro e w1 ⟨rfl, rfl⟩) | (go_at_call 11; refine (sbv_any _ _ _ _ _).mono ?_; rintro e w1 ⟨rfl, rfl⟩))
  go_ret
  exact ⟨rfl, by go_grown⟩

theorem exFillBucket (a b c d now : Int) (w : World) :
    Calls Try.prog 4 #[bk a b c d, .int .i64 now] w fun e w' => e = .returned (.bool true) ∧ Below w.heap.size w w' := by
  cases h : fillV a b c d now
  · have H := Lib.hid h; clear h
    go_enter Try.func4, Try.ntmps4
    go_wp2_with (first | (go_at_call 12; refine (tob_any _ _ _ _ _).mono ?_; rintro e w1 ⟨rfl, o1, o2, o3, rfl⟩) | (go_at_call 15; refine (ifb_no _ _ _ _ _ _ H.out).mono ?_; rintro e w1 ⟨rfl, o1, o2, o3, rfl⟩) | (go_at_call 14; refine (sfb_no _ _ _ _ _ _ H.out).mono ?_; rintro e w1 ⟨rfl, o1, o2, o3, rfl⟩) | (go_at_call 16; refine (eqb_same _ _ _ _ _).mono ?_; rintro e w1 ⟨rfl, o1, o2, rfl⟩))
    go_ret
    exact ⟨rfl, by go_grown⟩
  · have H := Lib.hid h; clear h
    go_enter Try.func4, Try.ntmps4
    go_wp2_with (first | (go_at_call 12; refine (tob_any _ _ _ _ _).mono ?_; rintro e w1 ⟨rfl, o1, o2, o3, rfl⟩) | (go_at_call 15; refine (ifb_yes _ _ _ _ _ _ H.out).mono ?_; rintro e w1 ⟨rfl, o1, o2, o3, rfl⟩) | (go_at_call 14; refine (sfb_yes _ _ _ _ _ _ H.out).mono ?_; rintro e w1 ⟨rfl, o1, o2, o3, rfl⟩) | (go_at_call 16; refine (eqb_same _ _ _ _ _).mono ?_; rintro e w1 ⟨rfl, o1, o2, rfl⟩))
    go_ret
    exact ⟨rfl, by go_grown⟩
end Go.Proofs.Ytkdogkpdgpppkaa
