/-
  The walk of the law of AddDelivery.
-/
import Derived.Test.YtadgmncngkkdnaaDrawTry
import Derived.Test.YtadgmncngkkdnaaAddPlain
import Derived.Test.YtadgmncngkkdnaaCutR
namespace Go.Proofs.Ytadgmncngkkdnaa
open Go.ChangeShapes Go.WideShapes Go.ChangeAt Go.RowKit Go.Joins
set_option linter.unusedVariables false

theorem sm_max3 {l : List De} (h : deB l = true) : ∀ z ∈ l, z.b.size ≤ maxLen := by
  intro z hz
  obtain ⟨k, hk⟩ := List.mem_iff_getElem?.1 hz
  have := wvB_size (deB_ok h hk).2.2.1
  simp only [maxLen]; omega
set_option maxRecDepth 100000 in
set_option maxHeartbeats 8000000 in
theorem walkAddDelivery (a : Option Addr) (len cap : Nat) (zs : List Int) (w : World) (h : IsCode w a len cap zs) :
    Calls Try.prog 3 #[.slice a len cap] w fun e w' => e = .returned (.bool true) ∧ Below w.heap.size w w' := by
  obtain ⟨hl, hm⟩ := code_len h
  unfold maxLen at hm
  have H := Lib.hid h; clear h
  by_cases hb : (1048576 : Int) < (len : Int)
  · go_enter Try.func3, Try.ntmps3
    go_wp2
    go_ret
    exact ⟨rfl, Below.refl _ _⟩
  · obtain ⟨i0, hi, hz0, hz1, hz2⟩ := info_parts de_info
    have HI := Lib.hid hi; have HZ0 := Lib.hid hz0; have HZ1 := Lib.hid hz1; have HZ2 := Lib.hid hz2
    clear hi hz0 hz1 hz2
    go_enter Try.func3, Try.ntmps3
    go_wp2_with fail
    refine (dadd_any _ _ _ _ _ _ H.out (Below.refl _ _)).mono ?_
    rintro e x1 ⟨v, n, l, z, rfl, hn, ho, hs, hz, hb1⟩
    obtain ⟨A, c, rfl, hnc, hcm, _⟩ := own_form ho
    have HLL := Lib.hid (rd_delen (rd_own ho))
    have HO1 := Lib.hid ho; have HS := Lib.hid (sm_max hs); have HB1 := Lib.hid hb1; have HNC := Lib.hid hnc; have HCM := Lib.hid hcm
    have HZ : Hid (z.b.size ≤ maxLen) := Lib.hid (by simp only [maxLen]; omega)
    clear ho hs hb1 hnc hcm hz
    have hrl := adL_len l z
    rw [HLL.out] at hrl
    generalize hRR : adL l z = R at hrl
    generalize hbR : adB l z = bR
    generalize hm : R.length = m at hrl
    have HR := Lib.hid hRR; have HBR := Lib.hid hbR; have HM := Lib.hid hm
    clear hRR hbR hm
    obtain ⟨za, zb, zc, zd⟩ := z
    simp only at HZ
    go_wp2_with fail
    have hk1 : Bk (x1.alloc (.cells #[.int .i64 za, .string zb, .int .i64 zc, .int .i64 zd] 25)) x1.heap.size 25 #[.int .i64 za, .string zb, .int .i64 zc, .int .i64 zd] := Bk.new x1 _ _
    have HO2 := Lib.hid (HO1.out.alloc (.cells #[.int .i64 za, .string zb, .int .i64 zc, .int .i64 zd] 25))
    have HB2 : Hid (Below w.heap.size w (x1.alloc (.cells #[.int .i64 za, .string zb, .int .i64 zc, .int .i64 zd] 25))) := Lib.hid (HB1.out.alloc HB1.out.size _)
    generalize x1.alloc (.cells #[.int .i64 za, .string zb, .int .i64 zc, .int .i64 zd] 25) = x2 at *
    generalize x1.heap.size = gz at *
    have HK2 := Lib.hid hk1
    clear hk1 HO1 HB1
    refine (iad_any A n c l ⟨za, zb, zc, zd⟩ x2 (rd_own HO2.out) (by omega) HNC.out HCM.out HS.out HZ.out).mono ?_
    rw [HR.out, HBR.out, HM.out]
    rintro e x3 ⟨v3, rfl, ho3, hb3⟩
    obtain ⟨A3, c3, rfl, hnc3, hcm3, _⟩ := own_form ho3
    have HX3 := Lib.hid ho3; have HNC3 := Lib.hid hnc3; have HCM3 := Lib.hid hcm3
    have HO3 := Lib.hid (own_below HO2.out hb3); have HB3 := Lib.hid (belB HB2.out HB2.out.size hb3); have HK3 := Lib.hid (HK2.out.keep hb3)
    clear hb3 HO2 HB2 HK2 ho3 hnc3 hcm3
    have k0 := HK3.out.cell 0 (v := .int .i64 za) rfl
    have k1 := HK3.out.cell 1 (v := .string zb) rfl
    have k2 := HK3.out.cell 2 (v := .int .i64 zc) rfl
    have k3 := HK3.out.cell 3 (v := .int .i64 zd) rfl
    have kl := HK3.out.lt
    go_wp2_with fail
    refine (sad_any A n c l ⟨za, zb, zc, zd⟩ x3 (rd_own HO3.out) (by omega) HNC.out HCM.out HS.out HZ.out).mono ?_
    rw [HR.out, HBR.out, HM.out]
    rintro e x4 ⟨v4, rfl, ho4, hb4⟩
    obtain ⟨A4, c4, rfl, _, _, _⟩ := own_form ho4
    have HY4 := Lib.hid ho4
    have HX4 := Lib.hid (own_below HX3.out hb4); have HO4 := Lib.hid (own_below HO3.out hb4); have HB4 := Lib.hid (belB HB3.out HB3.out.size hb4); have HK4 := Lib.hid (HK3.out.keep hb4)
    clear hb4 HO3 HB3 HK3 HX3 ho4 k0 k1 k2 k3 kl
    go_wp2_with fail
    refine (sd_same A3 A4 m c3 c4 R x4 (rd_own HX4.out) (rd_own HY4.out) (by omega)).mono ?_
    rintro e x5 ⟨rfl, hb5⟩
    have HX5 := Lib.hid (own_below HX4.out hb5); have HO5 := Lib.hid (own_below HO4.out hb5); have HB5 := Lib.hid (belB HB4.out HB4.out.size hb5); have HK5 := Lib.hid (HK4.out.keep hb5)
    clear hb5 HO4 HB4 HK4 HX4 HY4
    cases bR
    · have hcase : R = [] ∨ R = l := by
        cases hv : deB l
        · rw [(adL_bad hv).1] at HR; exact .inl HR.out.symm
        · cases hv2 : deB (adM l ⟨za, zb, zc, zd⟩)
          · rw [(adL_no hv hv2).1] at HR; exact .inr HR.out.symm
          · have := HBR.out; rw [(adL_yes hv hv2).2] at this; cases this
      by_cases hmn : m = n
      · have hRl : R = l := by
          rcases hcase with h1 | h1
          · have h0 : l.length = 0 := by rw [HLL.out, ← hmn, ← HM.out, h1]; rfl
            rw [h1]; exact (List.eq_nil_of_length_eq_zero h0).symm
          · exact h1
        have HRL := Lib.hid hRl
        clear hRl hcase
        subst hmn
        go_wp2_with fail
        refine (sd_same A3 A m c3 c R x5 (rd_own HX5.out) (by have := rd_own HO5.out; rw [← HRL.out] at this; exact this) (by omega)).mono ?_
        rintro e x6 ⟨rfl, hb6⟩
        have HB6 := Lib.hid (belB HB5.out HB5.out.size hb6)
        clear hb6
        go_wp2_with fail
        refine (alive_any _).mono ?_
        rintro e w' ⟨rfl, rfl⟩
        go_wp2_with fail
        go_ret
        exact ⟨rfl, HB6.out⟩
      · have hm0 : m = 0 := by
          rcases hcase with h1 | h1
          · rw [← HM.out, h1]; rfl
          · exact absurd (by rw [← HM.out, h1, HLL.out]) hmn
        subst hm0
        clear hcase
        go_wp2_with fail
        refine (sd_diff A3 A 0 n c3 c x5 (by omega) (by omega) (by omega)).mono ?_
        rintro e x6 ⟨rfl, hb6⟩
        have HB6 := Lib.hid (belB HB5.out HB5.out.size hb6)
        clear hb6
        go_wp2_with (go_at_call 12; refine (alive_any _).mono ?_; rintro e w' ⟨rfl, rfl⟩)
        go_ret
        exact ⟨rfl, HB6.out⟩
    · obtain ⟨hv1, hv2, hv3⟩ := adB_parts HBR.out
      have hRM : R = adM l ⟨za, zb, zc, zd⟩ := by rw [← HR.out]; exact hv3
      have HV : Hid (deB R = true) := Lib.hid (by rw [hRM]; exact hv2)
      have hmn : m = n + 1 := by rw [← HM.out, hRM, adM_len, HLL.out]
      have hmp : R.length = m := HM.out
      have HRM := Lib.hid hRM
      have HAG : Hid (adB R ⟨za, zb, zc, zd⟩ = false) := Lib.hid (by rw [hRM]; exact ad_again)
      have HMN := Lib.hid hmn
      have hm11 : m ≤ 10 + 1 := by omega
      clear hv1 hv2 hv3 hRM hmp hmn
      have k0 := HK5.out.cell 0 (v := .int .i64 za) rfl
      have k1 := HK5.out.cell 1 (v := .string zb) rfl
      have k2 := HK5.out.cell 2 (v := .int .i64 zc) rfl
      have k3 := HK5.out.cell 3 (v := .int .i64 zd) rfl
      have kl := HK5.out.lt
      go_wp2_with fail
      refine (iad_any A3 m c3 R ⟨za, zb, zc, zd⟩ x5 (rd_own HX5.out) (by omega) HNC3.out HCM3.out (sm_max3 HV.out) HZ.out).mono ?_
      rw [HAG.out]
      rintro e x6 ⟨v6, rfl, ho6, hb6⟩
      have HX6 := Lib.hid (own_below HX5.out hb6); have HO6 := Lib.hid (own_below HO5.out hb6); have HB6 := Lib.hid (belB HB5.out HB5.out.size hb6); have HK6 := Lib.hid (HK5.out.keep hb6)
      clear hb6 ho6 HO5 HB5 HK5 HX5 k0 k1 k2 k3 kl
      have k0 := HK6.out.cell 0 (v := .int .i64 za) rfl
      have k1 := HK6.out.cell 1 (v := .string zb) rfl
      have k2 := HK6.out.cell 2 (v := .int .i64 zc) rfl
      have k3 := HK6.out.cell 3 (v := .int .i64 zd) rfl
      have kl := HK6.out.lt
      generalize hp : adN l ⟨za, zb, zc, zd⟩ = p
      have HP := Lib.hid hp
      have hpm : p < m := by rw [← hp, HMN.out]; have := adN_le l ⟨za, zb, zc, zd⟩; rw [HLL.out] at this; omega
      clear hp
      go_wp2_with fail
      go_loopw [11] (fun i wr => ∃ k : Nat, k ≤ p ∧ i = .int .i64 k ∧ ∃ q, x6.drewN q = wr) (fun i _ => m - (intOf i).toNat)
      case atStart => exact ⟨0, Nat.zero_le _, rfl, 0, rfl⟩
      case round =>
        obtain ⟨k, hk, rfl, q, rfl⟩ := hrel
        have hlt : k < m := by omega
        obtain ⟨b2, off2, y, e2, hbl2, hy, hd0, hd1, hd2, hd3⟩ := (rd_own HX6.out).de hlt
        subst e2
        have HY := Lib.hid hy
        by_cases hkp : k = p
        · have hyz : y = ⟨za, zb, zc, zd⟩ := by
            have h1 := adM_at l ⟨za, zb, zc, zd⟩
            rw [← HRM.out, HP.out, ← hkp, HY.out] at h1
            injection h1
          subst hyz
          have HKP := Lib.hid hkp
          clear hkp hy
          go_wp2
          go_quiet (fail)
          go_wp2_with fail
          -- REGION 15
          have HXW : Hid (Rd ((x6.drewN q).drewN nq) 4 (some ⟨b2, off2, none⟩) m (des R)) := Lib.hid (rd_own HX6.out)
          have HLW : Hid (Rd ((x6.drewN q).drewN nq) 4 A n (des l)) := Lib.hid (rd_own HO6.out)
          have HBw := Lib.hid (bdN (bdN HB6.out q) nq)
          generalize (x6.drewN q).drewN nq = xw at *
          clear k0 k1 k2 k3 kl hd0 hd1 hd2 hd3 hbl2
          have hkm : k + 1 ≤ m := hlt
          have RT := Lib.hid (reads_of_rd (de_take HXW.out (Nat.le_of_lt hlt)) (by omega))
          have RC := Lib.hid (reads_of_rd (de_cut HXW.out hkm HNC3.out) (by omega))
          have hnc3 := HNC3.out
          have hcm3 := HCM3.out
          unfold maxLen at hcm3
          have hkc : k ≤ c3 := by omega
          have hk1c : (k : Int) + 1 ≤ (c3 : Int) := by omega
          have hk1m : (k : Int) + 1 ≤ (m : Int) := by omega
          have hwr : IntKind.i64.wrap ((k : Int) + 1) = (k : Int) + 1 := IntWalk.i64_in _ (by omega)
          have HSUM : Hid (k + (m - (k + 1)) = n) := Lib.hid (by have := HMN.out; omega)
          have HCAT : Hid (des (R.take k) ++ des (R.drop (k + 1)) = des l) := Lib.hid (by rw [← des_app, HRM.out, HKP.out, ← HP.out, ad_out])
          refine wp_region_inv' (fun ff ss ww => TabJ 21 (fun j => [72, 73, 74, 75, 76, 77, 78, 79, 80, 81, 82, 83, 84, 85, 86, 87, 88, 89, 90, 91, 2].getD j 0) (fun j v => match j with
            | 0 => v = .slice (some ⟨b2, off2, none⟩) m c3
            | 1 => v = .bool true
            | 2 => v = .bool true
            | 3 => v = .bool false
            | 4 => v = .bool true
            | 5 => v = .bool true
            | 6 => v = .bool true
            | 8 => v = .slice (some ⟨b2, off2, none⟩) m c3
            | 9 => v = .int .i64 k
            | 10 => v = .slice (some ⟨b2, off2, none⟩) k c3
            | 12 => v = .slice (some ⟨b2, off2, none⟩) m c3
            | 13 => v = .int .i64 k
            | 14 => v = .int .i64 ((k : Int) + 1)
            | 15 => ∃ A' c', v = .slice A' (m - (k + 1)) c' ∧ Reads xw xw.heap.size 4 A' (m - (k + 1)) (des (R.drop (k + 1)))
            | 17 => v = .slice A n c
            | 18 => v = .bool true
            | 19 => v = .bool true
            | 20 => v = .bool true
            | _ => True) 28 (undef) 28 29 0 #[] #[] xw ff ss ww ∧ CutR xw.heap.size 25 4 7 11 16 79 83 88 k n (des (R.take k)) (des l) ff ss ww) (by kernel_rfl) (regOkI_of (by kernel_rfl)) ⟨TabJ.start (by intro h; exact absurd h (by decide)), CutR.start (Nat.le_refl _)⟩ ?_ ?_
          · intro i o ff bx wb ho hf hrd hcl hsz hfr hJ K hK
            have hi := (Array.getElem?_eq_some_iff.1 ho).1
            simp only [List.size_toArray, List.length_cons, List.length_nil] at hi
            have hcases : i = 0 ∨ i = 1 ∨ i = 2 ∨ i = 3 ∨ i = 4 ∨ i = 5 ∨ i = 6 ∨ i = 7 ∨ i = 8 ∨ i = 9 ∨ i = 10 ∨ i = 11 ∨ i = 12 ∨ i = 13 ∨ i = 14 ∨ i = 15 ∨ i = 16 ∨ i = 17 ∨ i = 18 ∨ i = 19 ∨ i = 20 := by omega
            have hB := hJ.1.below.size
            rcases hcases with rfl | rfl | rfl | rfl | rfl | rfl | rfl | rfl | rfl | rfl | rfl | rfl | rfl | rfl | rfl | rfl | rfl | rfl | rfl | rfl | rfl
            · cases (show some _ = some o from ho)
              refine ite_yes (by rfl) ?_
              have h5 : bx.tmps.getD 5 undef = .slice (some ⟨b2, off2, none⟩) m c3 := hfr 5 (noDst_of (by kernel_rfl))
              have f5 := getD_opt h5
              have HK := Lib.hid hK
              have HJ := Lib.hid hJ
              clear hK hJ hcl hrd hfr hsz ho
              go_simp
              exact HK.out _ _ ⟨HJ.out.1.pure (by decide +kernel) 0 (by decide) (by decide) (by decide) rfl, HJ.out.2.step 0 72 (by decide) (by decide) (Below.refl _ _)⟩
            · cases (show some _ = some o from ho)
              refine ite_yes (by rfl) ?_
              have h72 : bx.tmps.getD 72 undef = .slice (some ⟨b2, off2, none⟩) m c3 := hJ.1.m 0 (by decide) (hrd ⟨0, .data⟩ (by simp) rfl)
              have f72 := getD_opt h72
              have HK := Lib.hid hK
              have HJ := Lib.hid hJ
              clear hK hJ hcl hrd hfr hsz ho
              go_simp
              refine (ide_any (some ⟨b2, off2, none⟩) m c3 R wb (HXW.out.below HJ.out.1.below) HNC3.out HCM3.out (sm_max3 HV.out)).mono ?_
              rw [HV.out]
              rintro e w' ⟨rfl, hb⟩
              exact HK.out _ _ ⟨HJ.out.1.step (by decide +kernel) 1 (by decide) (by decide) (by decide) (hb) rfl, HJ.out.2.step 1 73 (by decide) (by decide) hb⟩
            · cases (show some _ = some o from ho)
              refine ite_yes (by rfl) ?_
              have h73 : bx.tmps.getD 73 undef = .bool true := hJ.1.m 1 (by decide) (hrd ⟨1, .data⟩ (by simp) rfl)
              have f73 := getD_opt h73
              have HK := Lib.hid hK
              have HJ := Lib.hid hJ
              clear hK hJ hcl hrd hfr hsz ho
              go_simp
              exact HK.out _ _ ⟨HJ.out.1.pure (by decide +kernel) 2 (by decide) (by decide) (by decide) rfl, HJ.out.2.step 2 74 (by decide) (by decide) (Below.refl _ _)⟩
            · cases (show some _ = some o from ho)
              have hg : bx.tmps.getD 74 undef = .bool true := hJ.1.m 2 (by decide) (hrd ⟨2, .guard⟩ (by simp) rfl)
              refine ite_yes ((wanted_of rfl rfl rfl hg).trans rfl) ?_
              have h10 : bx.tmps.getD 10 undef = .bool false := hfr 10 (noDst_of (by kernel_rfl))
              have f10 := getD_opt h10
              have HK := Lib.hid hK
              have HJ := Lib.hid hJ
              clear hK hJ hcl hrd hfr hsz ho
              go_simp
              exact HK.out _ _ ⟨HJ.out.1.pure (by decide +kernel) 3 (by decide) (by decide) (by decide) rfl, HJ.out.2.step 3 75 (by decide) (by decide) (Below.refl _ _)⟩
            · cases (show some _ = some o from ho)
              have hg : bx.tmps.getD 74 undef = .bool true := hJ.1.m 2 (by decide) (hrd ⟨2, .guard⟩ (by simp) rfl)
              refine ite_yes ((wanted_of rfl rfl rfl hg).trans rfl) ?_
              have h75 : bx.tmps.getD 75 undef = .bool false := hJ.1.m 3 (by decide) (hrd ⟨3, .data⟩ (by simp) rfl)
              have f75 := getD_opt h75
              have HK := Lib.hid hK
              have HJ := Lib.hid hJ
              clear hK hJ hcl hrd hfr hsz ho
              go_simp
              exact HK.out _ _ ⟨HJ.out.1.pure (by decide +kernel) 4 (by decide) (by decide) (by decide) rfl, HJ.out.2.step 4 76 (by decide) (by decide) (Below.refl _ _)⟩
            · cases (show some _ = some o from ho)
              refine ite_yes (by rfl) ?_
              have h74 : bx.tmps.getD 74 undef = .bool true := hJ.1.m 2 (by decide) (hrd ⟨2, .data⟩ (by simp) rfl)
              have f74 := getD_opt h74
              have h76 : bx.tmps.getD 76 undef = .bool true := hJ.1.m 4 (by decide) (hrd ⟨4, .data⟩ (by simp) rfl)
              have f76 := getD_opt h76
              have HK := Lib.hid hK
              have HJ := Lib.hid hJ
              clear hK hJ hcl hrd hfr hsz ho
              go_simp
              exact HK.out _ _ ⟨HJ.out.1.pure (by decide +kernel) 5 (by decide) (by decide) (by decide) rfl, HJ.out.2.step 5 77 (by decide) (by decide) (Below.refl _ _)⟩
            · cases (show some _ = some o from ho)
              refine ite_yes (by rfl) ?_
              have h77 : bx.tmps.getD 77 undef = .bool true := hJ.1.m 5 (by decide) (hrd ⟨5, .data⟩ (by simp) rfl)
              have f77 := getD_opt h77
              have HK := Lib.hid hK
              have HJ := Lib.hid hJ
              clear hK hJ hcl hrd hfr hsz ho
              go_simp
              exact HK.out _ _ ⟨HJ.out.1.pure (by decide +kernel) 6 (by decide) (by decide) (by decide) rfl, HJ.out.2.step 6 78 (by decide) (by decide) (Below.refl _ _)⟩
            · cases (show some _ = some o from ho)
              have hg : bx.tmps.getD 78 undef = .bool true := hJ.1.m 6 (by decide) (hrd ⟨6, .guard⟩ (by simp) rfl)
              refine ite_yes ((wanted_of rfl rfl rfl hg).trans rfl) ?_
              have h11 : ff 11 = false := by
                cases e : ff 11
                · rfl
                · exfalso
                  have e1 := hcl 11 _ ⟨7, .data⟩ rfl e (by simp) rfl
                  rw [show ff 7 = true from e1] at hf; cases hf
              have h16 : ff 16 = false := by
                cases e : ff 16
                · rfl
                · exfalso
                  have e1 := hcl 16 _ ⟨11, .data⟩ rfl e (by simp) rfl
                  rw [show ff 11 = true from e1] at h11; cases h11
              have HK := Lib.hid hK
              have HJ := Lib.hid hJ
              clear hK hJ hcl hrd hfr hsz ho
              go_simp
              exact HK.out _ _ ⟨HJ.out.1.stepB (by decide +kernel) 7 (by decide) (by decide) ((Below.refl _ _).alloc hB _) trivial, HJ.out.2.step0 h11 h16 (by decide) (by decide)⟩
            · cases (show some _ = some o from ho)
              have hg : bx.tmps.getD 78 undef = .bool true := hJ.1.m 6 (by decide) (hrd ⟨6, .guard⟩ (by simp) rfl)
              refine ite_yes ((wanted_of rfl rfl rfl hg).trans rfl) ?_
              have h5 : bx.tmps.getD 5 undef = .slice (some ⟨b2, off2, none⟩) m c3 := hfr 5 (noDst_of (by kernel_rfl))
              have f5 := getD_opt h5
              have HK := Lib.hid hK
              have HJ := Lib.hid hJ
              clear hK hJ hcl hrd hfr hsz ho
              go_simp
              exact HK.out _ _ ⟨HJ.out.1.pure (by decide +kernel) 8 (by decide) (by decide) (by decide) rfl, HJ.out.2.step 8 80 (by decide) (by decide) (Below.refl _ _)⟩
            · cases (show some _ = some o from ho)
              have hg : bx.tmps.getD 78 undef = .bool true := hJ.1.m 6 (by decide) (hrd ⟨6, .guard⟩ (by simp) rfl)
              refine ite_yes ((wanted_of rfl rfl rfl hg).trans rfl) ?_
              have h11 : bx.tmps.getD 11 undef = .int .i64 k := hfr 11 (noDst_of (by kernel_rfl))
              have f11 := getD_opt h11
              have HK := Lib.hid hK
              have HJ := Lib.hid hJ
              clear hK hJ hcl hrd hfr hsz ho
              go_simp
              exact HK.out _ _ ⟨HJ.out.1.pure (by decide +kernel) 9 (by decide) (by decide) (by decide) rfl, HJ.out.2.step 9 81 (by decide) (by decide) (Below.refl _ _)⟩
            · cases (show some _ = some o from ho)
              have hg : bx.tmps.getD 78 undef = .bool true := hJ.1.m 6 (by decide) (hrd ⟨6, .guard⟩ (by simp) rfl)
              refine ite_yes ((wanted_of rfl rfl rfl hg).trans rfl) ?_
              have h80 : bx.tmps.getD 80 undef = .slice (some ⟨b2, off2, none⟩) m c3 := hJ.1.m 8 (by decide) (hrd ⟨8, .data⟩ (by simp) rfl)
              have f80 := getD_opt h80
              have h81 : bx.tmps.getD 81 undef = .int .i64 k := hJ.1.m 9 (by decide) (hrd ⟨9, .data⟩ (by simp) rfl)
              have f81 := getD_opt h81
              have HK := Lib.hid hK
              have HJ := Lib.hid hJ
              clear hK hJ hcl hrd hfr hsz ho
              go_simp
              exact HK.out _ _ ⟨HJ.out.1.pure (by decide +kernel) 10 (by decide) (by decide) (by decide) rfl, HJ.out.2.step 10 82 (by decide) (by decide) (Below.refl _ _)⟩
            · cases (show some _ = some o from ho)
              have hg : bx.tmps.getD 78 undef = .bool true := hJ.1.m 6 (by decide) (hrd ⟨6, .guard⟩ (by simp) rfl)
              refine ite_yes ((wanted_of rfl rfl rfl hg).trans rfl) ?_
              have h7 : ff 7 = true := hrd ⟨7, .data⟩ (by simp) rfl
              have h16 : ff 16 = false := by
                cases e : ff 16
                · rfl
                · exfalso
                  have e1 := hcl 16 _ ⟨11, .data⟩ rfl e (by simp) rfl
                  rw [show ff 11 = true from e1] at hf; cases hf
              have hr := hJ.2.r0 h7 hf
              have h82 : bx.tmps.getD 82 undef = .slice (some ⟨b2, off2, none⟩) k c3 := hJ.1.m 10 (by decide) (hrd ⟨10, .data⟩ (by simp) rfl)
              refine wp_append_any wb _ _ 23 rfl xw.heap.size 25 i0 _ 4 40 Try.underlying23 HI.out HZ0.out HZ1.out HZ2.out rfl (by omega) _ 0 [] rfl hr xw.heap.size (some ⟨b2, off2, none⟩) k c3 (des (R.take k)) h82 (RT.out.below hJ.1.below) (des_oneC _) (by simp only [maxLen]; omega) (by omega) hB ?_
              intro v w' hown hg hat
              rw [Nat.zero_add, List.nil_append] at hown
              exact hK _ _ ⟨hJ.1.stepB (by decide +kernel) 11 (by decide) (by decide) ((Below.refl _ _).grown hg hB (fun g hgg => (hr.lt g hgg).1)) trivial, hJ.2.step1 h16 (by decide) hg.size hown⟩
            · cases (show some _ = some o from ho)
              have hg : bx.tmps.getD 78 undef = .bool true := hJ.1.m 6 (by decide) (hrd ⟨6, .guard⟩ (by simp) rfl)
              refine ite_yes ((wanted_of rfl rfl rfl hg).trans rfl) ?_
              have h5 : bx.tmps.getD 5 undef = .slice (some ⟨b2, off2, none⟩) m c3 := hfr 5 (noDst_of (by kernel_rfl))
              have f5 := getD_opt h5
              have HK := Lib.hid hK
              have HJ := Lib.hid hJ
              clear hK hJ hcl hrd hfr hsz ho
              go_simp
              exact HK.out _ _ ⟨HJ.out.1.pure (by decide +kernel) 12 (by decide) (by decide) (by decide) rfl, HJ.out.2.step 12 84 (by decide) (by decide) (Below.refl _ _)⟩
            · cases (show some _ = some o from ho)
              have hg : bx.tmps.getD 78 undef = .bool true := hJ.1.m 6 (by decide) (hrd ⟨6, .guard⟩ (by simp) rfl)
              refine ite_yes ((wanted_of rfl rfl rfl hg).trans rfl) ?_
              have h11 : bx.tmps.getD 11 undef = .int .i64 k := hfr 11 (noDst_of (by kernel_rfl))
              have f11 := getD_opt h11
              have HK := Lib.hid hK
              have HJ := Lib.hid hJ
              clear hK hJ hcl hrd hfr hsz ho
              go_simp
              exact HK.out _ _ ⟨HJ.out.1.pure (by decide +kernel) 13 (by decide) (by decide) (by decide) rfl, HJ.out.2.step 13 85 (by decide) (by decide) (Below.refl _ _)⟩
            · cases (show some _ = some o from ho)
              have hg : bx.tmps.getD 78 undef = .bool true := hJ.1.m 6 (by decide) (hrd ⟨6, .guard⟩ (by simp) rfl)
              refine ite_yes ((wanted_of rfl rfl rfl hg).trans rfl) ?_
              have h85 : bx.tmps.getD 85 undef = .int .i64 k := hJ.1.m 13 (by decide) (hrd ⟨13, .data⟩ (by simp) rfl)
              have f85 := getD_opt h85
              have HK := Lib.hid hK
              have HJ := Lib.hid hJ
              clear hK hJ hcl hrd hfr hsz ho
              go_simp
              exact HK.out _ _ ⟨HJ.out.1.pure (by decide +kernel) 14 (by decide) (by decide) (by decide) rfl, HJ.out.2.step 14 86 (by decide) (by decide) (Below.refl _ _)⟩
            · cases (show some _ = some o from ho)
              have hg : bx.tmps.getD 78 undef = .bool true := hJ.1.m 6 (by decide) (hrd ⟨6, .guard⟩ (by simp) rfl)
              refine ite_yes ((wanted_of rfl rfl rfl hg).trans rfl) ?_
              have h84 : bx.tmps.getD 84 undef = .slice (some ⟨b2, off2, none⟩) m c3 := hJ.1.m 12 (by decide) (hrd ⟨12, .data⟩ (by simp) rfl)
              have f84 := getD_opt h84
              have h86 : bx.tmps.getD 86 undef = .int .i64 ((k : Int) + 1) := hJ.1.m 14 (by decide) (hrd ⟨14, .data⟩ (by simp) rfl)
              have f86 := getD_opt h86
              have HK := Lib.hid hK
              have HJ := Lib.hid hJ
              clear hK hJ hcl hrd hfr hsz ho
              have hR := RC.out
              by_cases hck : c3 = k + 1
              · rw [if_pos hck] at hR
                have hck2 : (c3 : Int) = (k : Int) + 1 := by omega
                subst hck
                go_simp
                try rw [if_pos (by omega)]
                exact HK.out _ _ ⟨HJ.out.1.pure (by decide +kernel) 15 (by decide) (by decide) (by decide) ⟨_, 0, by first | rfl | rw [show m - (k + 1) = 0 by omega], hR⟩, HJ.out.2.step 15 87 (by decide) (by decide) (Below.refl _ _)⟩
              · rw [if_neg hck] at hR
                have hck2 : ¬ (c3 : Int) = (k : Int) + 1 := by omega
                go_simp
                try rw [if_pos (by omega)]
                exact HK.out _ _ ⟨HJ.out.1.pure (by decide +kernel) 15 (by decide) (by decide) (by decide) ⟨_, _, rfl, hR⟩, HJ.out.2.step 15 87 (by decide) (by decide) (Below.refl _ _)⟩
            · cases (show some _ = some o from ho)
              have hg : bx.tmps.getD 78 undef = .bool true := hJ.1.m 6 (by decide) (hrd ⟨6, .guard⟩ (by simp) rfl)
              refine ite_yes ((wanted_of rfl rfl rfl hg).trans rfl) ?_
              have h11 : ff 11 = true := hrd ⟨11, .data⟩ (by simp) rfl
              have hr := hJ.2.r1 h11 hf
              obtain ⟨A', c', h87, hR⟩ := hJ.1.m 15 (by decide) (hrd ⟨15, .data⟩ (by simp) rfl)
              have h87 : bx.tmps.getD 87 undef = .slice A' (m - (k + 1)) c' := h87
              refine wp_append_any wb _ _ 23 rfl xw.heap.size 25 i0 _ 4 40 Try.underlying23 HI.out HZ0.out HZ1.out HZ2.out rfl (by omega) _ k _ rfl hr xw.heap.size A' (m - (k + 1)) c' (des (R.drop (k + 1))) h87 (hR.below hJ.1.below) (des_oneC _) (by simp only [maxLen]; omega) (by omega) hB ?_
              intro v w' hown hg hat
              rw [HSUM.out, HCAT.out] at hown
              exact hK _ _ ⟨hJ.1.stepB (by decide +kernel) 16 (by decide) (by decide) ((Below.refl _ _).grown hg hB (fun g hgg => (hr.lt g hgg).1)) trivial, hJ.2.step2 h11 (by decide) hg.size hown⟩
            · cases (show some _ = some o from ho)
              have hg : bx.tmps.getD 78 undef = .bool true := hJ.1.m 6 (by decide) (hrd ⟨6, .guard⟩ (by simp) rfl)
              refine ite_yes ((wanted_of rfl rfl rfl hg).trans rfl) ?_
              have h3 : bx.tmps.getD 3 undef = .slice A n c := hfr 3 (noDst_of (by kernel_rfl))
              have f3 := getD_opt h3
              have HK := Lib.hid hK
              have HJ := Lib.hid hJ
              clear hK hJ hcl hrd hfr hsz ho
              go_simp
              exact HK.out _ _ ⟨HJ.out.1.pure (by decide +kernel) 17 (by decide) (by decide) (by decide) rfl, HJ.out.2.step 17 89 (by decide) (by decide) (Below.refl _ _)⟩
            · cases (show some _ = some o from ho)
              have hg : bx.tmps.getD 78 undef = .bool true := hJ.1.m 6 (by decide) (hrd ⟨6, .guard⟩ (by simp) rfl)
              refine ite_yes ((wanted_of rfl rfl rfl hg).trans rfl) ?_
              have h16 : ff 16 = true := hrd ⟨16, .data⟩ (by simp) rfl
              have hr := hJ.2.r2 h16
              obtain ⟨A8, c8, e8, _, _, _⟩ := own_form hr
              have h88 : bx.tmps.getD 88 undef = .slice A8 n c8 := e8
              have hr : wb.ownsRow xw.heap.size 25 4 (.slice A8 n c8) n (des l) := by rw [← h88]; exact hr
              have HR8 := Lib.hid hr
              have f88 := getD_opt h88
              have h89 : bx.tmps.getD 89 undef = .slice A n c := hJ.1.m 17 (by decide) (hrd ⟨17, .data⟩ (by simp) rfl)
              have f89 := getD_opt h89
              have HK := Lib.hid hK
              have HJ := Lib.hid hJ
              clear hK hJ hcl hrd hfr hsz ho
              clear e8 h88 h89 hr
              go_simp
              refine (sd_same A8 A n c8 c l wb (rd_own HR8.out) (HLW.out.below HJ.out.1.below) (by omega)).mono ?_
              rintro e w' ⟨rfl, hb⟩
              exact HK.out _ _ ⟨HJ.out.1.step (by decide +kernel) 18 (by decide) (by decide) (by decide) hb rfl, HJ.out.2.step 18 90 (by decide) (by decide) hb⟩
            · cases (show some _ = some o from ho)
              refine ite_yes (by rfl) ?_
              have h78 : bx.tmps.getD 78 undef = .bool true := hJ.1.m 6 (by decide) (hrd ⟨6, .data⟩ (by simp) rfl)
              have f78 := getD_opt h78
              have h90 : bx.tmps.getD 90 undef = .bool true := hJ.1.m 18 (by decide) (hrd ⟨18, .data⟩ (by simp) rfl)
              have f90 := getD_opt h90
              have HK := Lib.hid hK
              have HJ := Lib.hid hJ
              clear hK hJ hcl hrd hfr hsz ho
              go_simp
              exact HK.out _ _ ⟨HJ.out.1.pure (by decide +kernel) 19 (by decide) (by decide) (by decide) rfl, HJ.out.2.step 19 91 (by decide) (by decide) (Below.refl _ _)⟩
            · cases (show some _ = some o from ho)
              refine ite_yes (by rfl) ?_
              have h91 : bx.tmps.getD 91 undef = .bool true := hJ.1.m 19 (by decide) (hrd ⟨19, .data⟩ (by simp) rfl)
              have f91 := getD_opt h91
              have HK := Lib.hid hK
              have HJ := Lib.hid hJ
              clear hK hJ hcl hrd hfr hsz ho
              go_simp
              exact HK.out _ _ ⟨HJ.out.1.pure (by decide +kernel) 20 (by decide) (by decide) (by decide) rfl, HJ.out.2.step 20 2 (by decide) (by decide) (Below.refl _ _)⟩
          · intro ff bx wb hall hsz hdf hfr hJ
            have HBW := Lib.hid hJ.1.below
            obtain ⟨tm, df⟩ := bx
            obtain rfl : df = [] := hdf
            have q2 : tm.getD 2 undef = .bool true := hJ.1.m 20 (by decide) (hall 20 (by decide))
            have q := lit_of tm 92 hsz
            simp only [List.range, List.range.loop, List.map, q2] at q
            have HQ := Lib.hid q
            clear q hsz hfr hJ hall q2
            rw [HQ.out]
            generalize tm.getD 0 undef = x0
            generalize tm.getD 1 undef = x1
            generalize tm.getD 3 undef = x3
            generalize tm.getD 4 undef = x4
            generalize tm.getD 5 undef = x5
            generalize tm.getD 6 undef = x6
            generalize tm.getD 7 undef = x7
            generalize tm.getD 8 undef = x8
            generalize tm.getD 9 undef = x9
            generalize tm.getD 10 undef = x10
            generalize tm.getD 11 undef = x11
            generalize tm.getD 12 undef = x12
            generalize tm.getD 13 undef = x13
            generalize tm.getD 14 undef = x14
            generalize tm.getD 15 undef = x15
            generalize tm.getD 16 undef = x16
            generalize tm.getD 17 undef = x17
            generalize tm.getD 18 undef = x18
            generalize tm.getD 19 undef = x19
            generalize tm.getD 20 undef = x20
            generalize tm.getD 21 undef = x21
            generalize tm.getD 22 undef = x22
            generalize tm.getD 23 undef = x23
            generalize tm.getD 24 undef = x24
            generalize tm.getD 25 undef = x25
            generalize tm.getD 26 undef = x26
            generalize tm.getD 27 undef = x27
            generalize tm.getD 28 undef = x28
            generalize tm.getD 29 undef = x29
            generalize tm.getD 30 undef = x30
            generalize tm.getD 31 undef = x31
            generalize tm.getD 32 undef = x32
            generalize tm.getD 33 undef = x33
            generalize tm.getD 34 undef = x34
            generalize tm.getD 35 undef = x35
            generalize tm.getD 36 undef = x36
            generalize tm.getD 37 undef = x37
            generalize tm.getD 38 undef = x38
            generalize tm.getD 39 undef = x39
            generalize tm.getD 40 undef = x40
            generalize tm.getD 41 undef = x41
            generalize tm.getD 42 undef = x42
            generalize tm.getD 43 undef = x43
            generalize tm.getD 44 undef = x44
            generalize tm.getD 45 undef = x45
            generalize tm.getD 46 undef = x46
            generalize tm.getD 47 undef = x47
            generalize tm.getD 48 undef = x48
            generalize tm.getD 49 undef = x49
            generalize tm.getD 50 undef = x50
            generalize tm.getD 51 undef = x51
            generalize tm.getD 52 undef = x52
            generalize tm.getD 53 undef = x53
            generalize tm.getD 54 undef = x54
            generalize tm.getD 55 undef = x55
            generalize tm.getD 56 undef = x56
            generalize tm.getD 57 undef = x57
            generalize tm.getD 58 undef = x58
            generalize tm.getD 59 undef = x59
            generalize tm.getD 60 undef = x60
            generalize tm.getD 61 undef = x61
            generalize tm.getD 62 undef = x62
            generalize tm.getD 63 undef = x63
            generalize tm.getD 64 undef = x64
            generalize tm.getD 65 undef = x65
            generalize tm.getD 66 undef = x66
            generalize tm.getD 67 undef = x67
            generalize tm.getD 68 undef = x68
            generalize tm.getD 69 undef = x69
            generalize tm.getD 70 undef = x70
            generalize tm.getD 71 undef = x71
            generalize tm.getD 72 undef = x72
            generalize tm.getD 73 undef = x73
            generalize tm.getD 74 undef = x74
            generalize tm.getD 75 undef = x75
            generalize tm.getD 76 undef = x76
            generalize tm.getD 77 undef = x77
            generalize tm.getD 78 undef = x78
            generalize tm.getD 79 undef = x79
            generalize tm.getD 80 undef = x80
            generalize tm.getD 81 undef = x81
            generalize tm.getD 82 undef = x82
            generalize tm.getD 83 undef = x83
            generalize tm.getD 84 undef = x84
            generalize tm.getD 85 undef = x85
            generalize tm.getD 86 undef = x86
            generalize tm.getD 87 undef = x87
            generalize tm.getD 88 undef = x88
            generalize tm.getD 89 undef = x89
            generalize tm.getD 90 undef = x90
            generalize tm.getD 91 undef = x91
            clear HQ
            have HBL := Lib.hid (belB HBw.out HBw.out.size HBW.out)
            clear HBW
            go_wp2_with fail
            go_ret
            exact ⟨rfl, HBL.out⟩
        · have hsm : deSm y ⟨za, zb, zc, zd⟩ = false := by
            refine ad_ne HBR.out (k := k) (by rw [← HRM.out]; exact HY.out) (by rw [HP.out]; exact hkp)
          simp only [deSm] at hsm
          clear hy
          cases s0 : (y.a == za)
          · clear hsm
            go_wp2
            go_quiet (fail)
            go_wp2
            go_roundw
            case rel => first | exact ⟨k + 1, by omega, by go_num, _, rfl⟩ | ((repeat apply Exists.intro); exact ⟨⟨k + 1, by omega, by go_num, _, rfl⟩, rfl⟩)
            case measure => simp [intOf]; omega
          · have s1 : (y.b.toList == zb.toList) = false := by rw [s0] at hsm; simpa using hsm
            clear hsm
            go_wp2
            go_quiet (fail)
            go_wp2
            go_roundw
            case rel => first | exact ⟨k + 1, by omega, by go_num, _, rfl⟩ | ((repeat apply Exists.intro); exact ⟨⟨k + 1, by omega, by go_num, _, rfl⟩, rfl⟩)
            case measure => simp [intOf]; omega
end Go.Proofs.Ytadgmncngkkdnaa
