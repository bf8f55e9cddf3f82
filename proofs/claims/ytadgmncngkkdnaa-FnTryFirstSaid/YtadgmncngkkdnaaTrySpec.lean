/-
  The contract of TryFirst of the reference.
-/
import Derived.Test.YtadgmncngkkdnaaTryImpl
namespace Go.Proofs.Ytadgmncngkkdnaa
open Go.ChangeShapes Go.WideShapes Go.ChangeAt Go.RowKit Go.Joins
set_option linter.unusedVariables false

set_option maxRecDepth 100000 in
set_option maxHeartbeats 4000000 in
theorem stf_any (A : Option Addr) (n c : Nat) (l : List De) (now : Int) (arr : Bool) (w : World) (h : Rd w 4 A n (des l)) (hn : n ≤ 1048576) (hnc : n ≤ c) (hc : c ≤ maxLen) (hs : ∀ z ∈ l, z.b.size ≤ maxLen) :
    Calls Try.prog 23 #[.slice A n c, .int .i64 now, .bool arr] w fun e w' => ∃ A' m c', e = .returned (.tuple #[.slice A' m c', .int .i64 (tfR l now arr).2]) ∧ Rd w' 4 A' m (des (tfR l now arr).1) ∧ m = (tfR l now arr).1.length ∧ m ≤ c' ∧ c' ≤ maxLen ∧ Below w.heap.size w w' := by
  have hll := rd_delen h
  have hnl : n ≤ maxLen := Nat.le_trans hnc hc
  have H := Lib.hid h; have HLL := Lib.hid hll; have HS := Lib.hid hs; have HNC := Lib.hid hnc; have HC := Lib.hid hc; have HN := Lib.hid hn; have HNL := Lib.hid hnl
  clear h hll hs hnc hc hnl
  obtain ⟨i0, hi, hz0, hz1, hz2⟩ := info_parts de_info
  have HI := Lib.hid hi; have HZ0 := Lib.hid hz0; have HZ1 := Lib.hid hz1; have HZ2 := Lib.hid hz2
  clear hi hz0 hz1 hz2
  generalize hr : tfR l now arr = RR
  obtain ⟨R, rn⟩ := RR
  have HR := Lib.hid hr; clear hr
  simp only
  cases hv : deB l
  · have HE : Hid (R = [] ∧ rn = -1) := Lib.hid (by have := HR.out; rw [tfR_bad (tfV_mk hv rfl)] at this; injection this with h1 h2; exact ⟨h1.symm, h2.symm⟩)
    have HV := Lib.hid hv; clear hv
    go_enter Try.func23, Try.ntmps23
    go_wp2_with fail
    refine (sde_any _ _ _ _ _ H.out HNL.out HS.out).mono ?_
    rw [HV.out]
    rintro e w1 ⟨rfl, hb1⟩
    have HB1 := Lib.hid hb1; clear hb1
    go_wp2_with fail
    go_ret2
    exact ⟨_, _, _, by rw [HE.out.2]; rfl, by rw [HE.out.1]; exact ⟨rfl, fun h => absurd h (by simp [des])⟩, by rw [HE.out.1]; rfl, Nat.le_refl _, by simp [maxLen], HB1.out.alloc HB1.out.size _⟩
  · cases hwi : wi now 0 1000000
    · have HE : Hid (R = [] ∧ rn = -1) := Lib.hid (by have := HR.out; rw [tfR_bad (tfV_mk hv hwi)] at this; injection this with h1 h2; exact ⟨h1.symm, h2.symm⟩)
      have HV := Lib.hid hv; clear hv
      go_enter Try.func23, Try.ntmps23
      go_wp2_with fail
      refine (sde_any _ _ _ _ _ H.out HNL.out HS.out).mono ?_
      rw [HV.out]
      rintro e w1 ⟨rfl, hb1⟩
      have HB1 := Lib.hid hb1; clear hb1
      go_wp2_with (go_at_call 39; refine (l1In_any _ _ _ _).mono ?_; rintro e w' ⟨rfl, rfl⟩)
      go_ret2
      exact ⟨_, _, _, by rw [HE.out.2]; rfl, by rw [HE.out.1]; exact ⟨rfl, fun h => absurd h (by simp [des])⟩, by rw [HE.out.1]; rfl, Nat.le_refl _, by simp [maxLen], HB1.out.alloc HB1.out.size _⟩
    · obtain ⟨hn0, hn1⟩ := wi_iff.1 hwi
      have HTV := Lib.hid (tfV_mk hv hwi)
      have HV := Lib.hid hv; clear hv
      go_enter Try.func23, Try.ntmps23
      go_wp2_with fail
      refine (sde_any _ _ _ _ _ H.out HNL.out HS.out).mono ?_
      rw [HV.out]
      rintro e w1 ⟨rfl, hb1⟩
      have HB1 := Lib.hid hb1; clear hb1
      go_upto_region 4 with (first
        | (go_at_call 39; refine (l1In_any _ _ _ _).mono ?_; rintro e w' ⟨rfl, rfl⟩)
        | (at_builtin
           refine wpList_append_any _ rfl _ _ 23 rfl w.heap.size 25 i0 _ 4 40 Try.underlying23 HI.out HZ0.out HZ1.out HZ2.out rfl (by omega) (.slice (some ⟨w1.heap.size, 0, none⟩) 0 0) 0 [] rfl (own_less (World.ownsRow_made w1 #[] 0 (Nat.le_refl _) (by simp) (by simp)) HB1.out.size) w1.heap.size A n c (des l) rfl ((reads_of_rd (H.out.below HB1.out) (by omega)).alloc (Nat.le_refl _) _) (des_oneC l) (by simp only [maxLen]; omega) (by omega) (by simp; have := HB1.out.size; omega) ?_
           intro v2 w2 hown1 hg1 hat1
           have HO2 := Lib.hid (show w2.ownsRow w.heap.size 25 4 v2 n (des l) by simpa using hown1)
           have HB2 : Hid (Below w.heap.size w w2) := Lib.hid ((HB1.out.alloc HB1.out.size _).grown hg1 (by simp; have := HB1.out.size; omega) (by intro k hk; simp [Value.ownBlock] at hk; have := HB1.out.size; omega))
           clear hown1 hg1 hat1
           obtain ⟨A2, c2, rfl, hnc2, hcm2, _⟩ := own_form HO2.out
           have HNC2 := Lib.hid hnc2; have HC2 := Lib.hid hcm2
           clear HB1))
      have HR2 := Lib.hid (rd_own HO2.out)
      have hl2 := Lib.hid (H.out.below HB2.out)
      clear hnc2 hcm2
      by_cases h0 : n = 0
      · have hl0 : l = [] := List.eq_nil_of_length_eq_zero (by rw [HLL.out]; exact h0)
        subst hl0
        have HE : Hid (R = [] ∧ rn = -1) := Lib.hid (by have := HR.out; rw [tfR_nil] at this; injection this with h1 h2; exact ⟨h1.symm, h2.symm⟩)
        have h0' : ((n : Int) == 0) = true := by simp [h0]
        have HN0 := Lib.hid h0
        clear h0
        go_wp2_with fail
        go_ret2
        exact ⟨_, _, _, by rw [HE.out.2]; rfl, by rw [HE.out.1]; exact HR2.out, by rw [HE.out.1, HN0.out]; rfl, HNC2.out, HC2.out, HB2.out⟩
      · have h0' : ((n : Int) == 0) = false := by simp [h0]
        have hnp : 0 < n := by omega
        obtain ⟨z, l', rfl⟩ : ∃ z l', l = z :: l' := by
          cases l with
          | nil => have := HLL.out; simp at this; omega
          | cons z l' => exact ⟨z, l', rfl⟩
        have HL' : Hid (l'.length = n - 1) := Lib.hid (by have := HLL.out; simp at this; omega)
        obtain ⟨b, off, z', eA, hbl, hz, hc0, hc1, hc2, hc3⟩ := hl2.out.de hnp
        subst eA
        simp only [List.getElem?_cons_zero, Option.some.injEq] at hz
        subst hz
        simp only [Nat.zero_mul, Nat.add_zero] at hc0 hc1 hc2 hc3
        by_cases hlate : now < z.d
        · have HE : Hid (R = z :: l' ∧ rn = -1) := Lib.hid (by have := HR.out; rw [tfR_late HTV.out hlate] at this; injection this with h1 h2; exact ⟨h1.symm, h2.symm⟩)
          clear hc0 hc1 hc2
          go_wp2_with fail
          go_ret2
          exact ⟨_, _, _, by rw [HE.out.2]; rfl, by rw [HE.out.1]; exact HR2.out, by rw [HE.out.1]; exact HLL.out.symm, HNC2.out, HC2.out, HB2.out⟩
        · have HLA := Lib.hid (show z.d ≤ now by omega)
          have hle : z.d ≤ now := HLA.out
          obtain ⟨g2, rfl, hg2, hgl2⟩ := own_at HO2.out hnp
          have hcut := de_cut HR2.out (show 1 ≤ n from hnp) HNC2.out
          have hnc2 := HNC2.out
          have hcm2 := HC2.out
          unfold maxLen at hcm2
          clear hg2
          by_cases hck : c2 = 1
          · subst hck
            obtain rfl : n = 1 := by omega
            have HCU : Hid (Rd w2 4 (some ⟨g2, 0, none⟩) 0 (des l')) := Lib.hid (by have := hcut; rw [if_pos rfl] at this; exact this)
            have HLn : Hid (0 = l'.length) := Lib.hid (by have := HL'.out; omega)
            have HNCn : Hid (0 ≤ 0) := Lib.hid (by omega)
            have HCn : Hid (0 ≤ maxLen) := Lib.hid (by simp only [maxLen]; omega)
            clear hcut
            cases arr
            · obtain ⟨b1, b2, b3, b4, b5, b6, b7⟩ := deB_ok HV.out (k := 0) (z := z) rfl
              by_cases h6 : z.c + 1 = 6
              · have h6' : (z.c + 1 == 6) = true := by simpa using h6
                have HE : Hid (R = l' ∧ rn = 2) := Lib.hid (by have := HR.out; rw [tfR_end HTV.out (by omega) h6] at this; injection this with h1 h2; exact ⟨h1.symm, h2.symm⟩)
                clear b3 b6 b7
                go_wp2_with fail
                go_ret2
                exact ⟨_, _, _, by rw [HE.out.2]; rfl, by rw [HE.out.1]; exact HCU.out.below ((Below.refl w2.heap.size w2).alloc (Nat.le_refl _) _), by rw [HE.out.1]; exact HLn.out, HNCn.out, HCn.out, HB2.out.trans (((Below.refl w2.heap.size w2).alloc (Nat.le_refl _) _).mono HB2.out.size)⟩
              · have h6' : (z.c + 1 == 6) = false := by simpa using h6
                have HE : Hid (R = adL l' (tfD z now) ∧ rn = 0) := Lib.hid (by have := HR.out; rw [tfR_more HTV.out (by omega) h6] at this; injection this with h1 h2; exact ⟨h1.symm, h2.symm⟩)
                have HP := pau_bd (t := z.c + 1) (by omega) (by omega)
                have HTD : Hid (tfD z now = ⟨z.a, z.b, z.c + 1, now + pau (z.c + 1)⟩) := Lib.hid rfl
                clear b3 b6 b7
                generalize hpt : pau (z.c + 1) = pt at *
                have HPT := Lib.hid hpt; clear hpt
                go_wp2_with (first | (go_at_call 40; refine (pa_spec _ _).mono ?_; rw [HPT.out]; rintro e w' ⟨rfl, rfl⟩))
                refine (sad_any (some ⟨g2, 0, none⟩) 0 0 l' ⟨z.a, z.b, z.c + 1, now + pt⟩ _ (HCU.out.below ((Below.refl w2.heap.size w2).alloc (Nat.le_refl _) _)) (by have := HN.out; omega) HNCn.out HCn.out (fun y hy => HS.out y (List.mem_cons_of_mem _ hy)) (HS.out z (List.mem_cons_self ..))).mono ?_
                rintro e w5 ⟨v5, rfl, ho5, hb5⟩
                obtain ⟨A5, c5, rfl, hnc5, hcm5, hr5⟩ := own_form ho5
                have HB5 := Lib.hid ((HB2.out.trans (((Below.refl w2.heap.size w2).alloc (Nat.le_refl _) _).mono HB2.out.size)).trans (hb5.mono (by have := HB2.out.size; simp; omega)))
                have HR5 := Lib.hid hr5; have HNC5 := Lib.hid hnc5; have HC5 := Lib.hid hcm5
                clear ho5 hb5 hr5 hnc5 hcm5
                go_wp2_with fail
                go_ret2
                exact ⟨_, _, _, by rw [HE.out.2]; rfl, by rw [HE.out.1, HTD.out]; exact HR5.out, by rw [HE.out.1, HTD.out], HNC5.out, HC5.out, HB5.out⟩
            · have HE : Hid (R = l' ∧ rn = 1) := Lib.hid (by have := HR.out; rw [tfR_arr HTV.out (by omega)] at this; injection this with h1 h2; exact ⟨h1.symm, h2.symm⟩)
              go_wp2_with fail
              go_ret2
              exact ⟨_, _, _, by rw [HE.out.2]; rfl, by rw [HE.out.1]; exact HCU.out.below ((Below.refl w2.heap.size w2).alloc (Nat.le_refl _) (.cells #[.int .i64 z.a, .string z.b, .int .i64 z.c, .int .i64 z.d] 25)), by rw [HE.out.1]; exact HLn.out, HNCn.out, HCn.out, HB2.out.trans (((Below.refl w2.heap.size w2).alloc (Nat.le_refl _) (.cells #[.int .i64 z.a, .string z.b, .int .i64 z.c, .int .i64 z.d] 25)).mono HB2.out.size)⟩
          · have HCU : Hid (Rd w2 4 (some ⟨g2, 4, none⟩) (n - 1) (des l')) := Lib.hid (by have := hcut; rw [if_neg hck] at this; exact this)
            have hc21 : 1 < c2 := by omega
            have hck' : (c2 == 1) = false := by simpa using hck
            have h1n : 1 ≤ n := hnp
            have h1c : 1 ≤ c2 := by omega
            have HLn : Hid ((n - 1) = l'.length) := Lib.hid (by have := HL'.out; omega)
            have HNCn : Hid ((n - 1) ≤ (c2 - 1)) := Lib.hid (by omega)
            have HCn : Hid ((c2 - 1) ≤ maxLen) := Lib.hid (by simp only [maxLen]; omega)
            clear hcut
            cases arr
            · obtain ⟨b1, b2, b3, b4, b5, b6, b7⟩ := deB_ok HV.out (k := 0) (z := z) rfl
              by_cases h6 : z.c + 1 = 6
              · have h6' : (z.c + 1 == 6) = true := by simpa using h6
                have HE : Hid (R = l' ∧ rn = 2) := Lib.hid (by have := HR.out; rw [tfR_end HTV.out (by omega) h6] at this; injection this with h1 h2; exact ⟨h1.symm, h2.symm⟩)
                clear b3 b6 b7
                go_wp2_with fail
                go_ret2
                exact ⟨_, _, _, by rw [HE.out.2]; rfl, by rw [HE.out.1]; exact HCU.out.below ((Below.refl w2.heap.size w2).alloc (Nat.le_refl _) _), by rw [HE.out.1]; exact HLn.out, HNCn.out, HCn.out, HB2.out.trans (((Below.refl w2.heap.size w2).alloc (Nat.le_refl _) _).mono HB2.out.size)⟩
              · have h6' : (z.c + 1 == 6) = false := by simpa using h6
                have HE : Hid (R = adL l' (tfD z now) ∧ rn = 0) := Lib.hid (by have := HR.out; rw [tfR_more HTV.out (by omega) h6] at this; injection this with h1 h2; exact ⟨h1.symm, h2.symm⟩)
                have HP := pau_bd (t := z.c + 1) (by omega) (by omega)
                have HTD : Hid (tfD z now = ⟨z.a, z.b, z.c + 1, now + pau (z.c + 1)⟩) := Lib.hid rfl
                clear b3 b6 b7
                generalize hpt : pau (z.c + 1) = pt at *
                have HPT := Lib.hid hpt; clear hpt
                go_wp2_with (first | (go_at_call 40; refine (pa_spec _ _).mono ?_; rw [HPT.out]; rintro e w' ⟨rfl, rfl⟩))
                refine (sad_any (some ⟨g2, 4, none⟩) (n - 1) (c2 - 1) l' ⟨z.a, z.b, z.c + 1, now + pt⟩ _ (HCU.out.below ((Below.refl w2.heap.size w2).alloc (Nat.le_refl _) _)) (by have := HN.out; omega) HNCn.out HCn.out (fun y hy => HS.out y (List.mem_cons_of_mem _ hy)) (HS.out z (List.mem_cons_self ..))).mono ?_
                rintro e w5 ⟨v5, rfl, ho5, hb5⟩
                obtain ⟨A5, c5, rfl, hnc5, hcm5, hr5⟩ := own_form ho5
                have HB5 := Lib.hid ((HB2.out.trans (((Below.refl w2.heap.size w2).alloc (Nat.le_refl _) _).mono HB2.out.size)).trans (hb5.mono (by have := HB2.out.size; simp; omega)))
                have HR5 := Lib.hid hr5; have HNC5 := Lib.hid hnc5; have HC5 := Lib.hid hcm5
                clear ho5 hb5 hr5 hnc5 hcm5
                go_wp2_with fail
                go_ret2
                exact ⟨_, _, _, by rw [HE.out.2]; rfl, by rw [HE.out.1, HTD.out]; exact HR5.out, by rw [HE.out.1, HTD.out], HNC5.out, HC5.out, HB5.out⟩
            · have HE : Hid (R = l' ∧ rn = 1) := Lib.hid (by have := HR.out; rw [tfR_arr HTV.out (by omega)] at this; injection this with h1 h2; exact ⟨h1.symm, h2.symm⟩)
              go_wp2_with fail
              go_ret2
              exact ⟨_, _, _, by rw [HE.out.2]; rfl, by rw [HE.out.1]; exact HCU.out.below ((Below.refl w2.heap.size w2).alloc (Nat.le_refl _) (.cells #[.int .i64 z.a, .string z.b, .int .i64 z.c, .int .i64 z.d] 25)), by rw [HE.out.1]; exact HLn.out, HNCn.out, HCn.out, HB2.out.trans (((Below.refl w2.heap.size w2).alloc (Nat.le_refl _) (.cells #[.int .i64 z.a, .string z.b, .int .i64 z.c, .int .i64 z.d] 25)).mono HB2.out.size)⟩
end Go.Proofs.Ytadgmncngkkdnaa
