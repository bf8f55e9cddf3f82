/-
  The walk of the law of KeptValid.
-/
import Derived.Test.YtgbbobpakjlddaaDrawKept
import Derived.Test.YtgbbobpakjlddaaWord
namespace Go.Proofs.Ytgbbobpakjlddaa
open Go.ChangeShapes Go.WideShapes Go.ChangeAt Go.RowKit Go.Joins
set_option linter.unusedVariables false

theorem walkKeptValid (a : Option Addr) (len cap : Nat) (zs : List Int) (w : World) (h : IsCode w a len cap zs) :
    Calls Try.prog 7 #[.slice a len cap] w fun e w' => e = .returned (.bool true) ∧ Below w.heap.size w w' := by
  obtain ⟨hl, hm⟩ := code_len h
  unfold maxLen at hm
  have H := Lib.hid h; clear h
  by_cases hb : (1048576 : Int) < (len : Int)
  · go_enter Try.func7, Try.ntmps7
    go_wp2
    go_ret
    exact ⟨rfl, by go_grown⟩
  · go_enter Try.func7, Try.ntmps7
    go_wp2_with fail
    refine (dkv_any _ _ _ _ _ _ H.out (Below.refl _ _)).mono ?_
    rintro e w1 ⟨x, y, rfl, hs, hb1⟩
    have HB1 := Lib.hid hb1; clear hb1 hs
    have h1 := kpV_1
    have h2 := kpV_2
    cases hv : kpV x y
    · go_wp2_with (first | (go_at_call 13; refine (ikv_any _ _ _).mono ?_; rintro e w1 ⟨rfl, rfl⟩) | (go_at_call 11; refine (skv_any _ _ _).mono ?_; rintro e w1 ⟨rfl, rfl⟩) | (go_at_call 26; refine (alive_any _).mono ?_; rintro e w1 ⟨rfl, rfl⟩))
      go_ret
      refine ⟨rfl, bthen HB1.out (by go_grown)⟩
    · have hv2 := kpV_3 hv
      go_wp2_with (first | (go_at_call 13; refine (ikv_any _ _ _).mono ?_; rintro e w1 ⟨rfl, rfl⟩) | (go_at_call 11; refine (skv_any _ _ _).mono ?_; rintro e w1 ⟨rfl, rfl⟩) | (go_at_call 26; refine (alive_any _).mono ?_; rintro e w1 ⟨rfl, rfl⟩))
      go_ret
      refine ⟨rfl, bthen HB1.out (by go_grown)⟩
end Go.Proofs.Ytgbbobpakjlddaa
