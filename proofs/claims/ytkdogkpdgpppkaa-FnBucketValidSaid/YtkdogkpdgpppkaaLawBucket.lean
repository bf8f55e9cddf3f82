/-
  The walk of the law of BucketValid.
-/
import Derived.Test.YtkdogkpdgpppkaaDrawBucket2
import Derived.Test.YtkdogkpdgpppkaaWord
namespace Go.Proofs.Ytkdogkpdgpppkaa
open Go.ChangeShapes Go.WideShapes Go.ChangeAt Go.RowKit Go.Joins
set_option linter.unusedVariables false

theorem bkV_empty (c d : Int) : bkV 0 0 c d = false := by simp [bkV, wi]
theorem bkV_less {a b c d : Int} (h : bkV a b c d = true) : bkV 0 b c d = true := by
  obtain ⟨h1, h2, h3, h4⟩ := bkV_iff.1 h
  exact bkV_iff.2 ⟨h1, ⟨by omega, by omega⟩, h3, h4⟩

theorem walkBucketValid (a : Option Addr) (len cap : Nat) (zs : List Int) (w : World) (h : IsCode w a len cap zs) :
    Calls Try.prog 7 #[.slice a len cap] w fun e w' => e = .returned (.bool true) ∧ Below w.heap.size w w' := by
  obtain ⟨hl, hm⟩ := code_len h
  unfold maxLen at hm
  have H := Lib.hid h; clear h
  by_cases hb : (1048576 : Int) < (len : Int)
  · go_enter Try.func7, Try.ntmps7
    go_wp2
    go_ret
    exact ⟨rfl, by go_grown⟩
  · go_enter Try.func7, Try.ntmps7
    go_wp2_with fail
    refine (dbv_any _ _ _ _ _ _ H.out (Below.refl _ _)).mono ?_
    rintro e w1 ⟨x, y, z, t, rfl, hs, hb1⟩
    have HB1 := Lib.hid hb1; clear hb1 hs
    have HE := bkV_empty z t
    cases hv : bkV x y z t
    · go_wp2_with (first | (go_at_call 13; refine (ibv_any _ _ _ _ _).mono ?_; rintro e w1 ⟨rfl, rfl⟩) | (go_at_call 11; refine (sbv_any _ _ _ _ _).mono ?_; rintro e w1 ⟨rfl, rfl⟩) | (go_at_call 22; refine (alive_any _).mono ?_; rintro e w1 ⟨rfl, rfl⟩))
      go_ret
      refine ⟨rfl, bthen HB1.out (by go_grown)⟩
    · have hv2 := bkV_less hv
      go_wp2_with (first | (go_at_call 13; refine (ibv_any _ _ _ _ _).mono ?_; rintro e w1 ⟨rfl, rfl⟩) | (go_at_call 11; refine (sbv_any _ _ _ _ _).mono ?_; rintro e w1 ⟨rfl, rfl⟩) | (go_at_call 22; refine (alive_any _).mono ?_; rintro e w1 ⟨rfl, rfl⟩))
      go_ret
      refine ⟨rfl, bthen HB1.out (by go_grown)⟩
end Go.Proofs.Ytkdogkpdgpppkaa
