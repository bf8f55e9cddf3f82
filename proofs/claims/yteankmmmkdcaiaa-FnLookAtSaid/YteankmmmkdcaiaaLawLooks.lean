/-
  The walk of the law of LooksDue.
-/
import Derived.Test.YteankmmmkdcaiaaLawWatches
import Derived.Test.YteankmmmkdcaiaaLooks
namespace Go.Proofs.Yteankmmmkdcaiaa
open Go.ChangeShapes Go.WideShapes Go.ChangeAt Go.RowKit Go.Joins
set_option linter.unusedVariables false
variable {L : Nat}

theorem ldR_mono (l : List Wa) (now : Int) : (ldR l now).length ≤ (ldR l (now + 1)).length := by
  unfold ldR
  split
  · unfold ldL
    rw [List.length_map, List.length_map]
    generalize l.take l.length = m
    induction m with
    | nil => simp
    | cons z m ih =>
      simp only [List.filter_cons]
      by_cases h1 : z.c ≤ now
      · rw [if_pos (by simpa using h1), if_pos (by simp; omega)]; simp only [List.length_cons]; omega
      · rw [if_neg (by simpa using h1)]
        split
        · simp only [List.length_cons]; omega
        · exact ih
  · exact Nat.le_refl _
theorem ldR_great {l : List Wa} (h : wvA l = true) : (ldR l 1000000000).length = l.length := by
  unfold ldR
  rw [if_pos h]
  unfold ldL
  rw [List.length_map, List.take_length, List.filter_eq_self.2]
  intro z hz
  obtain ⟨i, hi⟩ := List.mem_iff_getElem?.1 hz
  have := wvA_b h hi
  simpa using this.2.2.2.1

theorem dld_any (a : Option Addr) (len cap : Nat) (zs : List Int) (w0 w : World) (h : IsCode w0 a len cap zs) (hB : Below w0.heap.size w0 w) :
    Calls Try.prog 21 #[.slice a len cap] w fun e w' => ∃ (v : Value) (n : Nat) (l : List Wa) (now : Int), e = .returned (.tuple #[v, .int .i64 now]) ∧ n ≤ 6 ∧ (-1 ≤ now ∧ now ≤ 300) ∧ w'.ownsRow w.heap.size 33 3 v n (was l) ∧ (∀ z ∈ l, z.a.size ≤ 9) ∧ Below w.heap.size w w' := by
  have H := Lib.hid h; have HB0 := Lib.hid hB
  clear h hB
  go_enter Try.func21, Try.ntmps21
  go_wp2_with fail
  refine (open_any _ _ _ _ _ _ H.out HB0.out).mono ?_
  rintro e w1 ⟨R, rfl, hb1, hR1, hR2, hr1⟩
  have HB1 := Lib.hid hb1; have HR1 := Lib.hid hr1
  clear hb1 hr1
  go_wp2_with fail
  refine (l20wa_any _ _ _ _ HR1.out (by omega) (by omega)).mono ?_
  rintro e w2 ⟨v, n, l, rfl, hn, ho, hs, hg, hr⟩
  have HO := Lib.hid (own_less ho HB1.out.size); have HS := Lib.hid hs; have HB2 := Lib.hid (below_of_pick HB1.out hR1 hg); have HR2 := Lib.hid hr
  clear ho hs hg hr
  go_wp2_with fail
  refine (pick_any _ _ _ _ HR2.out (by omega)).mono ?_
  rintro e w3 ⟨k1, rfl, hk1, hg3, hr3⟩
  have HO3 := Lib.hid (own_pick HO.out HR2.out (by decide) hg3); have HB3 := Lib.hid (below_of_pick HB2.out hR1 hg3); have HR3 := Lib.hid hr3
  clear hg3 hr3
  go_wp2_with fail
  refine (pick_any _ _ _ _ HR3.out (by omega)).mono ?_
  rintro e w4 ⟨k2, rfl, hk2, hg4, hr4⟩
  have HO4 := Lib.hid (own_pick HO3.out HR3.out (by decide) hg4); have HB4 := Lib.hid (below_of_pick HB3.out hR1 hg4)
  clear hg4 hr4
  have hk1' : (k1 : Int) ≤ 220 := by omega
  obtain ⟨q6, hq6, hq6a, hq6b⟩ : ∃ x : Int, (k2 : Int) / 13 = x ∧ 0 ≤ x ∧ x ≤ 1 := ⟨_, rfl, by omega, by omega⟩
  clear hk1 hk2
  go_wp2_with fail
  go_ret2
  exact ⟨v, n, l, _, rfl, hn, ⟨by omega, by omega⟩, HO4.out, HS.out, HB4.out⟩

set_option maxRecDepth 100000 in
set_option maxHeartbeats 4000000 in
theorem walkLooksDue (a : Option Addr) (len cap : Nat) (zs : List Int) (w : World) (h : IsCode w a len cap zs) :
    Calls Try.prog 7 #[.slice a len cap] w fun e w' => e = .returned (.bool true) ∧ Below w.heap.size w w' := by
  obtain ⟨hl, hm⟩ := code_len h
  unfold maxLen at hm
  have H := Lib.hid h; clear h
  by_cases hb : (1048576 : Int) < (len : Int)
  · go_enter Try.func7, Try.ntmps7
    go_wp2
    go_ret
    exact ⟨rfl, Below.refl _ _⟩
  · go_enter Try.func7, Try.ntmps7
    go_wp2_with fail
    refine (dld_any _ _ _ _ _ _ H.out (Below.refl _ _)).mono ?_
    rintro e x1 ⟨v, n, l, now, rfl, hn, hnw, ho, hs, hb1⟩
    obtain ⟨A, c, rfl, hnc, hcm, _⟩ := own_form ho
    obtain ⟨hn1, hn2⟩ := hnw
    have hlen := rd_walen (rd_own ho)
    have HNC := Lib.hid hnc; have HCM := Lib.hid hcm; have HLEN := Lib.hid hlen
    have HSM : Hid (∀ z ∈ l, z.a.size ≤ maxLen) := Lib.hid (fun z hz => by have := hs z hz; simp only [maxLen]; omega)
    have HNN : Hid (n ≤ 1048576) := Lib.hid (by omega)
    have HO1 := Lib.hid ho; have HB1 := Lib.hid hb1
    have hr1 : (ldR l now).length ≤ n := by rw [← hlen]; exact ldR_le l now
    have hr2 : (ldR l (now + 1)).length ≤ n := by rw [← hlen]; exact ldR_le l (now + 1)
    have hr3 : (ldR l 1000000000).length ≤ n := by rw [← hlen]; exact ldR_le l 1000000000
    have hmono := ldR_mono l now
    have HGR : Hid (wvA l = true → (ldR l 1000000000).length = n) := Lib.hid (fun hv => (ldR_great hv).trans hlen)
    clear ho hs hb1 hlen hnc hcm
    generalize hR1 : ldR l now = R1 at *
    generalize hR2 : ldR l (now + 1) = R2 at *
    generalize hR3 : ldR l 1000000000 = R3 at *
    generalize hm1 : R1.length = m1 at *
    generalize hm2 : R2.length = m2 at *
    generalize hm3 : R3.length = m3 at *
    have HR1 := Lib.hid hR1; have HR2 := Lib.hid hR2; have HR3 := Lib.hid hR3
    have HM1 := Lib.hid hm1; have HM2 := Lib.hid hm2; have HM3 := Lib.hid hm3
    clear hR1 hR2 hR3 hm1 hm2 hm3
    go_wp2_with fail
    refine (ild_any _ _ _ l now _ (rd_own HO1.out) HNN.out HNC.out HCM.out HSM.out).mono ?_
    rw [HR1.out, HM1.out]
    rintro e x2 ⟨v, rfl, ho, hb2⟩
    obtain ⟨Ag, cg, rfl, _, _, _⟩ := own_form ho
    have RG := Lib.hid ho; have HO2 := Lib.hid (own_below HO1.out hb2); have HB2 := Lib.hid (belB HB1.out HB1.out.size hb2)
    clear ho hb2
    go_wp2_with fail
    refine (sld_any _ _ _ l now _ (rd_own HO2.out) HNN.out HSM.out).mono ?_
    rw [HR1.out, HM1.out]
    rintro e x3 ⟨v, rfl, ho, hb3⟩
    obtain ⟨As, cs, rfl, _, _, _⟩ := own_form ho
    have RS := Lib.hid ho; have HO3 := Lib.hid (own_below HO2.out hb3); have RG3 := Lib.hid (own_below RG.out hb3); have HB3 := Lib.hid (belB HB2.out HB2.out.size hb3)
    clear ho hb3
    go_wp2_with fail
    refine (eqT_same _ _ _ _ _ _ _ (rd_own RG3.out) (rd_own RS.out) (by omega)).mono ?_
    rintro e x4 ⟨rfl, hb4⟩
    have HO4 := Lib.hid (own_below HO3.out hb4); have HB4 := Lib.hid (belB HB3.out HB3.out.size hb4)
    clear hb4
    go_wp2_with fail
    refine (ild_any _ _ _ l (now + 1) _ (rd_own HO4.out) HNN.out HNC.out HCM.out HSM.out).mono ?_
    rw [HR2.out, HM2.out]
    rintro e x5 ⟨v, rfl, ho, hb5⟩
    obtain ⟨Ah, ch, rfl, _, _, _⟩ := own_form ho
    have HO5 := Lib.hid (own_below HO4.out hb5); have HB5 := Lib.hid (belB HB4.out HB4.out.size hb5)
    clear ho hb5
    have hmi : decide ((m1 : Int) ≤ (m2 : Int)) = true := by simpa using hmono
    have hmn : decide (m1 ≤ m2) = true := by simpa using hmono
    cases hv : wvA l
    · go_wp2_with (first
        | (go_at_call 16; refine (iwa_any _ _ _ l _ (rd_own HO5.out) HNC.out HCM.out HSM.out).mono ?_; rw [hv]; rintro e x6 ⟨rfl, hb6⟩; have HB6 := Lib.hid (belB HB5.out HB5.out.size hb6); clear hb6)
        | (go_at_call 14; refine (alive_any _).mono ?_; rintro e w' ⟨rfl, rfl⟩))
      go_ret
      exact ⟨rfl, HB6.out⟩
    · have hm3n := HGR.out hv
      subst hm3n
      go_wp2_with fail
      refine (iwa_any _ _ _ l _ (rd_own HO5.out) HNC.out HCM.out HSM.out).mono ?_
      rw [hv]
      rintro e x6 ⟨rfl, hb6⟩
      have HO6 := Lib.hid (own_below HO5.out hb6); have HB6 := Lib.hid (belB HB5.out HB5.out.size hb6)
      clear hb6
      go_wp2_with fail
      refine (ild_any _ _ _ l 1000000000 _ (rd_own HO6.out) HNN.out HNC.out HCM.out HSM.out).mono ?_
      rw [HR3.out, HM3.out]
      rintro e x7 ⟨v, rfl, ho, hb7⟩
      obtain ⟨Ai, ci, rfl, _, _, _⟩ := own_form ho
      have HB7 := Lib.hid (belB HB6.out HB6.out.size hb7)
      clear ho hb7
      go_wp2_with (go_at_call 14; refine (alive_any _).mono ?_; rintro e w' ⟨rfl, rfl⟩)
      go_ret
      exact ⟨rfl, HB7.out⟩
end Go.Proofs.Yteankmmmkdcaiaa
