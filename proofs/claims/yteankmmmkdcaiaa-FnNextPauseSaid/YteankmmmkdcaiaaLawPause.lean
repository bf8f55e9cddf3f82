/-
  The walk of the law of NextPause.
-/
import Derived.Test.YteankmmmkdcaiaaDrawPause
import Derived.Test.YteankmmmkdcaiaaWord
namespace Go.Proofs.Yteankmmmkdcaiaa
open Go.ChangeShapes Go.WideShapes Go.ChangeAt Go.RowKit Go.Joins
set_option linter.unusedVariables false

theorem np_facts (p : Int) (ch : Bool) : (wi p 10 1280 = false ∧ np p ch = -1) ∨ (10 ≤ np p ch ∧ np p ch ≤ 1280 ∧ (ch = true → np p ch ≤ p) ∧ (ch = false → p ≤ np p ch)) := by
  cases h : wi p 10 1280
  · exact .inl ⟨rfl, (np_no h).symm⟩
  · right
    obtain ⟨h1, h2⟩ := wi_iff.1 h
    cases ch
    · rw [← np_n h rfl]
      exact ⟨by omega, by omega, (fun h => by cases h), (fun _ => by omega)⟩
    · rw [← np_y h rfl]
      exact ⟨by omega, by omega, (fun _ => by omega), (fun h => by cases h)⟩

theorem walkNextPause (a : Option Addr) (len cap : Nat) (zs : List Int) (w : World) (h : IsCode w a len cap zs) :
    Calls Try.prog 4 #[.slice a len cap] w fun e w' => e = .returned (.bool true) ∧ Below w.heap.size w w' := by
  obtain ⟨hl, hm⟩ := code_len h
  unfold maxLen at hm
  have H := Lib.hid h; clear h
  by_cases hb : (1048576 : Int) < (len : Int)
  · go_enter Try.func4, Try.ntmps4
    go_wp2
    go_ret
    exact ⟨rfl, by go_grown⟩
  · go_enter Try.func4, Try.ntmps4
    go_wp2_with fail
    refine (dnp_any _ _ _ _ _ _ H.out (Below.refl _ _)).mono ?_
    rintro e w1 ⟨p, c, rfl, hp, hb1⟩
    have HB1 := Lib.hid hb1; clear hb1 hp
    have hf := np_facts p c
    generalize hx : np p c = x at hf
    have HX := Lib.hid hx; clear hx
    rcases hf with ⟨hw, h1⟩ | ⟨h1, h2, h3, h4⟩
    · clear hw
      subst h1
      go_wp2_with (first | (go_at_call 12; refine (inp_any _ _ _).mono ?_; rw [HX.out]; rintro e w1 ⟨rfl, rfl⟩) | (go_at_call 11; refine (snp_any _ _ _).mono ?_; rw [HX.out]; rintro e w1 ⟨rfl, rfl⟩) | (go_at_call 14; refine (alive_any _).mono ?_; rintro e w1 ⟨rfl, rfl⟩))
      go_ret
      refine ⟨rfl, HB1.out⟩
    · cases c
      · have h5 := h4 rfl
        clear h3 h4
        go_wp2_with (first | (go_at_call 12; refine (inp_any _ _ _).mono ?_; rw [HX.out]; rintro e w1 ⟨rfl, rfl⟩) | (go_at_call 11; refine (snp_any _ _ _).mono ?_; rw [HX.out]; rintro e w1 ⟨rfl, rfl⟩) | (go_at_call 14; refine (alive_any _).mono ?_; rintro e w1 ⟨rfl, rfl⟩))
        go_ret
        refine ⟨rfl, HB1.out⟩
      · have h5 := h3 rfl
        clear h3 h4
        go_wp2_with (first | (go_at_call 12; refine (inp_any _ _ _).mono ?_; rw [HX.out]; rintro e w1 ⟨rfl, rfl⟩) | (go_at_call 11; refine (snp_any _ _ _).mono ?_; rw [HX.out]; rintro e w1 ⟨rfl, rfl⟩) | (go_at_call 14; refine (alive_any _).mono ?_; rintro e w1 ⟨rfl, rfl⟩))
        go_ret
        refine ⟨rfl, HB1.out⟩
end Go.Proofs.Yteankmmmkdcaiaa
