/-
  The walk of the law of AskBucket.
-/
import Derived.Test.YtkdogkpdgpppkaaDrawAsk
import Derived.Test.YtkdogkpdgpppkaaBucket3
import Derived.Test.YtkdogkpdgpppkaaWord
namespace Go.Proofs.Ytkdogkpdgpppkaa
open Go.ChangeShapes Go.WideShapes Go.ChangeAt Go.RowKit Go.Joins
set_option linter.unusedVariables false

theorem ask_rdy {a b c d now much : Int} (h : askV a b c d now much = true) (hf : much ≤ fillH a b c d now) :
    rdyV a b c d much = true ∧ 0 ≤ rdy a c d much ∧ rdy a c d much ≤ now ∧ bkV (fillH a b c d now - much) b c now = true := by
  obtain ⟨h1, h2, h3, h4, h5, h6, h7, h8⟩ := ask_facts h
  obtain ⟨⟨hb1, hb2⟩, ⟨ha1, ha2⟩, ⟨hc1, hc2⟩, hd1, hd2⟩ := bkV_iff.1 h2
  obtain ⟨hn1, hn2⟩ := wi_iff.1 h3
  have hfb : fillH a b c d now ≤ b := by unfold fillH; omega
  have hr : rdyV a b c d much = true := by
    simp only [rdyV, Bool.and_eq_true]
    exact ⟨h2, wi_iff.2 ⟨h7, by omega⟩⟩
  have hw : 0 ≤ rdyW a c d much ∧ rdyW a c d much ≤ now := by
    unfold rdyW
    by_cases hl : a < much
    · rw [if_pos hl]
      have hq := rdy_q hr hl
      have k : (much - a + c - 1) / c < now - d + 1 := by
        apply Int.ediv_lt_of_lt_mul (by omega)
        have e : (now - d + 1) * c = c * (now - d) + c := by rw [Int.add_mul, Int.mul_comm]; omega
        have : much ≤ a + c * (now - d) := by unfold fillH at hf; omega
        rw [e]; omega
      omega
    · rw [if_neg hl]; omega
  refine ⟨hr, ?_, ?_, ?_⟩
  · unfold rdy; rw [if_neg (by omega)]; exact hw.1
  · unfold rdy; rw [if_neg (by omega)]; exact hw.2
  · exact bkV_iff.2 ⟨⟨hb1, hb2⟩, ⟨by omega, by omega⟩, ⟨hc1, hc2⟩, by omega, hn2⟩

set_option maxHeartbeats 1000000 in
theorem walkAskBucket (a : Option Addr) (len cap : Nat) (zs : List Int) (w : World) (h : IsCode w a len cap zs) :
    Calls Try.prog 10 #[.slice a len cap] w fun e w' => e = .returned (.bool true) ∧ Below w.heap.size w w' := by
  obtain ⟨hl, hm⟩ := code_len h
  unfold maxLen at hm
  have H := Lib.hid h; clear h
  by_cases hb : (1048576 : Int) < (len : Int)
  · go_enter Try.func10, Try.ntmps10
    go_wp2
    go_ret
    exact ⟨rfl, by go_grown⟩
  · go_enter Try.func10, Try.ntmps10
    go_wp2_with fail
    refine (dab_any _ _ _ _ _ _ H.out (Below.refl _ _)).mono ?_
    rintro e w1 ⟨x, y, z, t, n, m, rfl, hs, hn, hmm, hb1⟩
    have HB1 := Lib.hid hb1; clear hb1
    cases hv : askV x y z t n m
    · have HV := Lib.hid hv; clear hv hs hn hmm
      cases hf : fillV x y z t n
      · have HF := Lib.hid hf; clear hf
        go_wp2_with (first | (go_at_call 20; refine (iab_no _ _ _ _ _ _ _ HV.out).mono ?_; rintro e w1 ⟨rfl, o1, o2, o3, rfl⟩) | (go_at_call 19; refine (sab_no _ _ _ _ _ _ _ HV.out).mono ?_; rintro e w1 ⟨rfl, o1, o2, o3, o4, o5, o6, rfl⟩) | (go_at_call 15; refine (ifb_no _ _ _ _ _ _ HF.out).mono ?_; rintro e w1 ⟨rfl, o1, o2, o3, rfl⟩) | (go_at_call 22; refine (alive_any _).mono ?_; rintro e w1 ⟨rfl, rfl⟩))
        go_ret
        exact ⟨rfl, bthen HB1.out (by go_grown)⟩
      · have HF := Lib.hid hf; clear hf
        generalize hx : fillH x y z t n = u
        have HX := Lib.hid hx; clear hx
        go_wp2_with (first | (go_at_call 20; refine (iab_no _ _ _ _ _ _ _ HV.out).mono ?_; rintro e w1 ⟨rfl, o1, o2, o3, rfl⟩) | (go_at_call 19; refine (sab_no _ _ _ _ _ _ _ HV.out).mono ?_; rintro e w1 ⟨rfl, o1, o2, o3, o4, o5, o6, rfl⟩) | (go_at_call 15; refine (ifb_yes _ _ _ _ _ _ HF.out).mono ?_; rw [HX.out]; rintro e w1 ⟨rfl, o1, o2, o3, rfl⟩) | (go_at_call 22; refine (alive_any _).mono ?_; rintro e w1 ⟨rfl, rfl⟩))
        go_ret
        exact ⟨rfl, bthen HB1.out (by go_grown)⟩
    · obtain ⟨k1, k2, k3, k4, k5, k6, k7, k8⟩ := ask_facts hv
      have hy : (y == 0) = false := by
        have := (bkV_iff.1 k2).1.1
        simp; omega
      have HF := Lib.hid k1
      have HV := Lib.hid hv
      by_cases hf : m ≤ fillH x y z t n
      · obtain ⟨r1, r2, r3, r4⟩ := ask_rdy hv hf
        generalize hx : fillH x y z t n = u at *
        generalize hr : rdy x z t m = v at *
        have HX := Lib.hid hx; have HR := Lib.hid hr; have HRV := Lib.hid r1; have HL : Hid (m ≤ fillH x y z t n) := Lib.hid (by rw [hx]; exact hf)
        clear hx hr r1 k1 k2 k3 k4 hv hs hn hmm hf hy
        go_wp2_with (first | (go_at_call 20; refine (iab_some _ _ _ _ _ _ _ HV.out HL.out).mono ?_; rw [HX.out]; rintro e w1 ⟨rfl, o1, o2, o3, o4, o5, o6, rfl⟩) | (go_at_call 19; refine (sab_some _ _ _ _ _ _ _ HV.out HL.out).mono ?_; rw [HX.out]; rintro e w1 ⟨rfl, o1, o2, o3, o4, o5, o6, rfl⟩) | (go_at_call 15; refine (ifb_yes _ _ _ _ _ _ HF.out).mono ?_; rw [HX.out]; rintro e w1 ⟨rfl, o1, o2, o3, rfl⟩) | (go_at_call 18; refine (ira_yes _ _ _ _ _ _ HRV.out).mono ?_; rw [HR.out]; rintro e w1 ⟨rfl, o1, o2, rfl⟩) | (go_at_call 13; refine (ibv_any _ _ _ _ _).mono ?_; rintro e w1 ⟨rfl, rfl⟩))
        go_ret
        exact ⟨rfl, bthen HB1.out (by go_grown)⟩
      · have hf' := Int.not_le.1 hf
        have HL := Lib.hid hf'
        generalize hx : fillH x y z t n = u at *
        have HX := Lib.hid hx
        have HL2 : Hid (fillH x y z t n < m) := Lib.hid (by rw [hx]; exact hf')
        clear hx k1 k2 k3 k4 hv hs hn hmm hf
        go_wp2_with (first | (go_at_call 20; refine (iab_none _ _ _ _ _ _ _ HV.out HL2.out).mono ?_; rw [HX.out]; rintro e w1 ⟨rfl, o1, o2, o3, o4, o5, o6, rfl⟩) | (go_at_call 19; refine (sab_none _ _ _ _ _ _ _ HV.out HL2.out).mono ?_; rw [HX.out]; rintro e w1 ⟨rfl, o1, o2, o3, o4, o5, o6, rfl⟩) | (go_at_call 15; refine (ifb_yes _ _ _ _ _ _ HF.out).mono ?_; rw [HX.out]; rintro e w1 ⟨rfl, o1, o2, o3, rfl⟩) | (go_at_call 22; refine (alive_any _).mono ?_; rintro e w1 ⟨rfl, rfl⟩))
        go_ret
        exact ⟨rfl, bthen HB1.out (by go_grown)⟩
end Go.Proofs.Ytkdogkpdgpppkaa
