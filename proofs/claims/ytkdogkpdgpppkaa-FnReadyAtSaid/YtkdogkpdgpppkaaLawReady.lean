/-
  The walk of the law of ReadyAt.
-/
import Derived.Test.YtkdogkpdgpppkaaDrawReady
import Derived.Test.YtkdogkpdgpppkaaBucket3
import Derived.Test.YtkdogkpdgpppkaaWord
namespace Go.Proofs.Ytkdogkpdgpppkaa
open Go.ChangeShapes Go.WideShapes Go.ChangeAt Go.RowKit Go.Joins
set_option linter.unusedVariables false

/-- At the time as much may be asked; one unit of time before not. -/
theorem rdy_ask {a b c d much : Int} (h : rdyV a b c d much = true) (h2 : rdyW a c d much ≤ 1000000) :
    askV a b c d (rdyW a c d much) much = true ∧ much ≤ fillH a b c d (rdyW a c d much) ∧ d ≤ rdyW a c d much ∧
    (askV a b c d (rdyW a c d much - 1) much = false ∨ (askV a b c d (rdyW a c d much - 1) much = true ∧ fillH a b c d (rdyW a c d much - 1) < much)) := by
  have hh := h
  simp only [rdyV, Bool.and_eq_true] at hh
  obtain ⟨h3, h4⟩ := hh
  obtain ⟨⟨hb1, hb2⟩, ⟨ha1, ha2⟩, ⟨hc1, hc2⟩, hd1, hd2⟩ := bkV_iff.1 h3
  obtain ⟨hm1, hm2⟩ := wi_iff.1 h4
  have hv : ∀ now, d ≤ now → now ≤ 1000000 → askV a b c d now much = true := fun now k1 k2 => by
    simp only [askV, fillV, Bool.and_eq_true]
    exact ⟨⟨h3, wi_iff.2 ⟨k1, k2⟩⟩, wi_iff.2 ⟨hm1, by omega⟩⟩
  by_cases hl : a < much
  · have e : rdyW a c d much = d + (much - a + c - 1) / c := by unfold rdyW; rw [if_pos hl]
    obtain ⟨q1, q2⟩ := rdy_q h hl
    rw [e] at h2 ⊢
    generalize hq : (much - a + c - 1) / c = q at *
    have k1 : c * q ≤ much - a + c - 1 := by rw [← hq]; exact Int.mul_ediv_self_le (by omega)
    have k2 : much - a + c - 1 < c * q + c := by
      have := Int.lt_mul_ediv_self_add (show 0 < c by omega) (x := much - a + c - 1)
      rwa [hq] at this
    have hq1 : 1 ≤ q := by
      by_cases h0 : q = 0
      · subst h0; simp at k2; omega
      · omega
    have k3 : c * (d + q - d) = c * q := by congr 1; omega
    have k4 : c * (d + q - 1 - d) = c * q - c := by
      rw [show d + q - 1 - d = q - 1 by omega, Int.mul_sub, Int.mul_one]
    refine ⟨hv _ (by omega) h2, ?_, by omega, .inr ⟨hv _ (by omega) (by omega), ?_⟩⟩
    · unfold fillH; rw [k3]; omega
    · unfold fillH; rw [k4]; omega
  · have e : rdyW a c d much = d := by unfold rdyW; rw [if_neg hl]
    rw [e] at h2 ⊢
    refine ⟨hv d (by omega) h2, ?_, by omega, .inl ?_⟩
    · unfold fillH; simp; omega
    · simp only [askV, fillV, Bool.and_eq_false_iff]
      exact .inl (.inr (wi_no.2 (.inl (by omega))))

set_option maxHeartbeats 1000000 in
theorem walkReadyAt (a : Option Addr) (len cap : Nat) (zs : List Int) (w : World) (h : IsCode w a len cap zs) :
    Calls Try.prog 9 #[.slice a len cap] w fun e w' => e = .returned (.bool true) ∧ Below w.heap.size w w' := by
  obtain ⟨hl, hm⟩ := code_len h
  unfold maxLen at hm
  have H := Lib.hid h; clear h
  by_cases hb : (1048576 : Int) < (len : Int)
  · go_enter Try.func9, Try.ntmps9
    go_wp2
    go_ret
    exact ⟨rfl, by go_grown⟩
  · go_enter Try.func9, Try.ntmps9
    go_wp2_with fail
    refine (dra_any _ _ _ _ _ _ H.out (Below.refl _ _)).mono ?_
    rintro e w1 ⟨x, y, z, t, m, rfl, hs, hn, hb1⟩
    have HB1 := Lib.hid hb1; clear hb1
    cases hv : rdyV x y z t m
    · have HV := Lib.hid hv; clear hv hs hn
      go_wp2_with (first | (go_at_call 18; refine (ira_no _ _ _ _ _ _ HV.out).mono ?_; rintro e w1 ⟨rfl, o1, o2, rfl⟩) | (go_at_call 17; refine (sra_no _ _ _ _ _ _ HV.out).mono ?_; rintro e w1 ⟨rfl, o1, o2, rfl⟩) | (go_at_call 22; refine (alive_any _).mono ?_; rintro e w1 ⟨rfl, rfl⟩))
      go_ret
      exact ⟨rfl, bthen HB1.out (by go_grown)⟩
    · have HV := Lib.hid hv
      by_cases hw : rdyW x z t m ≤ 1000000
      · obtain ⟨k1, k2, k3, k4⟩ := rdy_ask hv hw
        have hd : 0 ≤ t := by
          simp only [rdyV, Bool.and_eq_true] at hv
          exact (bkV_iff.1 hv.1).2.2.2.1
        have hx : rdy x z t m = rdyW x z t m := by unfold rdy; rw [if_neg (by omega)]
        generalize hu : rdyW x z t m = u at *
        have HX := Lib.hid hx; have HA := Lib.hid k1; have HF := Lib.hid k2
        clear hx hu k1 k2 hs hn hv
        rcases k4 with k4 | ⟨k4, k5⟩
        · have HE := Lib.hid k4; clear k4
          go_wp2_with (first | (go_at_call 18; refine (ira_yes _ _ _ _ _ _ HV.out).mono ?_; rw [HX.out]; rintro e w1 ⟨rfl, o1, o2, rfl⟩) | (go_at_call 17; refine (sra_yes _ _ _ _ _ _ HV.out).mono ?_; rw [HX.out]; rintro e w1 ⟨rfl, o1, o2, nq, rfl⟩) | (go_at_call 20; first | ((with_reducible refine (iab_some _ _ _ _ _ _ _ HA.out HF.out).mono ?_); rintro e w1 ⟨rfl, o1, o2, o3, o4, o5, o6, rfl⟩) | ((with_reducible refine (iab_no _ _ _ _ _ _ _ HE.out).mono ?_); rintro e w1 ⟨rfl, o1, o2, o3, rfl⟩)))
          go_ret
          refine ⟨rfl, bthen HB1.out ?_⟩
          go_grown
          refine bdN ?_ _
          go_grown
        · have HE := Lib.hid k4; have HG := Lib.hid k5; clear k4 k5
          go_wp2_with (first | (go_at_call 18; refine (ira_yes _ _ _ _ _ _ HV.out).mono ?_; rw [HX.out]; rintro e w1 ⟨rfl, o1, o2, rfl⟩) | (go_at_call 17; refine (sra_yes _ _ _ _ _ _ HV.out).mono ?_; rw [HX.out]; rintro e w1 ⟨rfl, o1, o2, nq, rfl⟩) | (go_at_call 20; first | ((with_reducible refine (iab_some _ _ _ _ _ _ _ HA.out HF.out).mono ?_); rintro e w1 ⟨rfl, o1, o2, o3, o4, o5, o6, rfl⟩) | ((with_reducible refine (iab_none _ _ _ _ _ _ _ HE.out HG.out).mono ?_); rintro e w1 ⟨rfl, o1, o2, o3, o4, o5, o6, rfl⟩)))
          go_ret
          refine ⟨rfl, bthen HB1.out ?_⟩
          go_grown
          refine bdN ?_ _
          go_grown
      · have hx : rdy x z t m = -1 := by unfold rdy; rw [if_pos (by omega)]
        have HX := Lib.hid hx
        clear hx hs hn hv hw
        go_wp2_with (first | (go_at_call 18; refine (ira_yes _ _ _ _ _ _ HV.out).mono ?_; rw [HX.out]; rintro e w1 ⟨rfl, o1, o2, rfl⟩) | (go_at_call 17; refine (sra_yes _ _ _ _ _ _ HV.out).mono ?_; rw [HX.out]; rintro e w1 ⟨rfl, o1, o2, nq, rfl⟩) | (go_at_call 22; refine (alive_any _).mono ?_; rintro e w1 ⟨rfl, rfl⟩))
        go_ret
        refine ⟨rfl, bthen HB1.out ?_⟩
        go_grown
        refine bdN ?_ _
        go_grown
end Go.Proofs.Ytkdogkpdgpppkaa
