/-
  The walk of the law of FetchCode.
-/
import Derived.Test.YtgbbobpakjlddaaDrawFetch
import Derived.Test.YtgbbobpakjlddaaWord
namespace Go.Proofs.Ytgbbobpakjlddaa
open Go.ChangeShapes Go.WideShapes Go.ChangeAt Go.RowKit Go.Joins
set_option linter.unusedVariables false

set_option maxHeartbeats 1000000 in
theorem walkFetchCode (a : Option Addr) (len cap : Nat) (zs : List Int) (w : World) (h : IsCode w a len cap zs) :
    Calls Try.prog 8 #[.slice a len cap] w fun e w' => e = .returned (.bool true) ∧ Below w.heap.size w w' := by
  obtain ⟨hl, hm⟩ := code_len h
  unfold maxLen at hm
  have H := Lib.hid h; clear h
  by_cases hb : (1048576 : Int) < (len : Int)
  · go_enter Try.func8, Try.ntmps8
    go_wp2
    go_ret
    exact ⟨rfl, by go_grown⟩
  · go_enter Try.func8, Try.ntmps8
    go_wp2_with fail
    refine (dfc_any _ _ _ _ _ _ H.out (Below.refl _ _)).mono ?_
    rintro e w1 ⟨x, y, n, m, rfl, hs, hn, hmm, hb1⟩
    have HB1 := Lib.hid hb1; clear hb1 hs hn hmm
    cases hv : fcV x y m
    · have HX := Lib.hid (fc_no (now := n) hv); clear hv
      go_wp2_with (first | (go_at_call 15; refine (ifc_any _ _ _ _ _).mono ?_; rw [HX.out]; rintro e w1 ⟨rfl, o1, o2, rfl⟩) | (go_at_call 14; refine (sfc_any _ _ _ _ _).mono ?_; rw [HX.out]; rintro e w1 ⟨rfl, o1, o2, rfl⟩) | (go_at_call 26; refine (alive_any _).mono ?_; rintro e w1 ⟨rfl, rfl⟩))
      go_ret
      exact ⟨rfl, bthen HB1.out (by go_grown)⟩
    · by_cases hxm : x = m
      · have HL := Lib.hid (fc_304 (a := x) (b := y) (now := y) hv (.inr (Int.le_refl y)) hxm)
        have e1 : (x == m) = true := by simp [hxm]
        have e2 : (x != m) = false := by simp [hxm]
        by_cases h0 : 0 ≤ x ∧ n < y
        · have HX := Lib.hid (fc_0 hv h0.1 h0.2)
          obtain ⟨h1, h2⟩ := h0
          have HE := Lib.hid hxm
          clear hv hxm
          go_wp2_with (first | (go_at_call 15; refine (ifc_any _ _ _ _ _).mono ?_; (first | rw [HX.out] | rw [HL.out]); rintro e w1 ⟨rfl, o1, o2, rfl⟩) | (go_at_call 14; refine (sfc_any _ _ _ _ _).mono ?_; rw [HX.out]; rintro e w1 ⟨rfl, o1, o2, rfl⟩))
          go_ret
          exact ⟨rfl, bthen HB1.out (by go_grown)⟩
        · have HX := Lib.hid (fc_304 (now := n) hv (by omega) hxm)
          clear hv hxm h0
          go_wp2_with (first | (go_at_call 15; refine (ifc_any _ _ _ _ _).mono ?_; (first | rw [HX.out] | rw [HL.out]); rintro e w1 ⟨rfl, o1, o2, rfl⟩) | (go_at_call 14; refine (sfc_any _ _ _ _ _).mono ?_; rw [HX.out]; rintro e w1 ⟨rfl, o1, o2, rfl⟩))
          go_ret
          exact ⟨rfl, bthen HB1.out (by go_grown)⟩
      · have HL := Lib.hid (fc_200 (a := x) (b := y) (now := y) hv (.inr (Int.le_refl y)) hxm)
        have e1 : (x == m) = false := by simp [hxm]
        have e2 : (x != m) = true := by simp [hxm]
        by_cases h0 : 0 ≤ x ∧ n < y
        · have HX := Lib.hid (fc_0 hv h0.1 h0.2)
          obtain ⟨h1, h2⟩ := h0
          clear hv hxm
          go_wp2_with (first | (go_at_call 15; refine (ifc_any _ _ _ _ _).mono ?_; (first | rw [HX.out] | rw [HL.out]); rintro e w1 ⟨rfl, o1, o2, rfl⟩) | (go_at_call 14; refine (sfc_any _ _ _ _ _).mono ?_; rw [HX.out]; rintro e w1 ⟨rfl, o1, o2, rfl⟩))
          go_ret
          exact ⟨rfl, bthen HB1.out (by go_grown)⟩
        · have HX := Lib.hid (fc_200 (now := n) hv (by omega) hxm)
          clear hv hxm h0
          go_wp2_with (first | (go_at_call 15; refine (ifc_any _ _ _ _ _).mono ?_; (first | rw [HX.out] | rw [HL.out]); rintro e w1 ⟨rfl, o1, o2, rfl⟩) | (go_at_call 14; refine (sfc_any _ _ _ _ _).mono ?_; rw [HX.out]; rintro e w1 ⟨rfl, o1, o2, rfl⟩))
          go_ret
          exact ⟨rfl, bthen HB1.out (by go_grown)⟩
end Go.Proofs.Ytgbbobpakjlddaa
