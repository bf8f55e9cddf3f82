/-
  The walk of the law of AddressTo.
-/
import Derived.Test.YtpbnbekkmifbpaaDoorPlAddr
import Derived.Test.YtpbnbekkmifbpaaDoorDrawAddr
import Derived.Test.YtpbnbekkmifbpaaDoorWord
namespace Go.Proofs.YtpbnbekkmifbpaaDoor
open Go.ChangeShapes Go.WideShapes Go.ChangeAt Go.RowKit Go.Joins
set_option linter.unusedVariables false

set_option maxRecDepth 100000 in
set_option maxHeartbeats 16000000 in
theorem walkAddressTo (a : Option Addr) (len cap : Nat) (zs : List Int) (w : World) (h : IsCode w a len cap zs) :
    Calls Tryd.prog 5 #[.slice a len cap] w fun e w' => e = .returned (.bool true) ∧ Below w.heap.size w w' := by
  obtain ⟨hl, hm⟩ := code_len h
  unfold maxLen at hm
  have H := Lib.hid h; clear h
  by_cases hb : (1048576 : Int) < (len : Int)
  · go_enter Tryd.func5, Tryd.ntmps5
    go_wp2
    go_ret
    exact ⟨rfl, Below.refl _ _⟩
  · go_enter Tryd.func5, Tryd.ntmps5
    go_wp2_with fail
    refine (dad_any _ _ _ _ _ _ H.out (Below.refl _ _)).mono ?_
    rintro e w0 ⟨s, v2, n, f, rfl, hs81, hn7, ho, hsf, hb0⟩
    obtain ⟨A, c, rfl, hnc, hcm, hrd⟩ := own_form ho
    have HB0 := Lib.hid hb0; have HRD := Lib.hid hrd; have HNC := Lib.hid hnc; have HCM := Lib.hid hcm
    have HSM : Hid (∀ z ∈ f, z.a.size ≤ maxLen ∧ z.b.size ≤ maxLen) := Lib.hid (smh_max hsf)
    have HFL := Lib.hid (rd_halen hrd)
    clear hb0 hrd hnc ho hsf
    unfold maxLen at hcm
    have HI := Lib.hid (fun s A n c w h0 h1 h2 h3 => iad_any s A n c f w h0 h1 h2 h3 HSM.out); have HSP := Lib.hid (fun s A n c w h0 h1 h2 h3 => sad_any s A n c f w h0 h1 h2 h3 HSM.out)
    go_wp2_with fail
    refine (HI.out s _ _ _ _ (by omega) HRD.out HNC.out HCM.out).mono ?_
    rintro e w1 ⟨rfl, hb1⟩
    have HRD1 := Lib.hid (HRD.out.below hb1); have HB1 := Lib.hid (belB HB0.out HB0.out.size hb1)
    clear hb1 HRD HB0
    go_wp2_with fail
    refine (HSP.out s _ _ _ _ (by omega) HRD1.out HNC.out HCM.out).mono ?_
    rintro e w2 ⟨rfl, hb2⟩
    have HRD2 := Lib.hid (HRD1.out.below hb2); have HB2 := Lib.hid (belB HB1.out HB1.out.size hb2)
    clear hb2 HRD1 HB1 HSP
    cases hv : adV s f
    · have hS : adS s f = ⟨#[]⟩ := adS_no hv
      rw [hS]
      clear hS
      go_wp2_with fail
      refine (alive_any _).mono ?_
      rintro e w' ⟨rfl, rfl⟩
      go_wp2_with fail
      go_ret
      exact ⟨rfl, HB2.out⟩
    · have HXS := Lib.hid (adS_yes hv)
      have HTV := Lib.hid (ad_tv hv)
      have HNM := Lib.hid (ad_named hv)
      have HAV := Lib.hid (ad_V hv); have HAS := Lib.hid (ad_S hv)
      rw [HXS.out]
      have hx80 := tvB_size HTV.out
      clear HXS hv
      generalize adX s f = X at *
      have HXM : Hid (X.size ≤ maxLen) := Lib.hid (by simp only [maxLen]; omega)
      have HMN := Lib.hid (fun w => imn_any X w (by omega))
      have hnl := mnB_small X
      generalize mnB X = N at *
      generalize hm : N.length = m at *
      have HNL := Lib.hid hm; clear hm
      go_wp2_with fail
      refine (HMN.out _).mono ?_
      rintro e w3 ⟨v, rfl, ho, hb3⟩
      obtain ⟨A3, c3, rfl, hnc3, hcm3, hrd3⟩ := own_form ho
      have HRN := Lib.hid hrd3
      have HRD3 := Lib.hid (HRD2.out.below hb3); have HB3 := Lib.hid (belB HB2.out HB2.out.size hb3)
      clear hb3 ho hrd3 HRD2 HB2 HMN
      go_wp2_with fail
      go_loopw [10] (fun i wr => ∃ k : Nat, k ≤ n ∧ i = .int .i64 k ∧ Below w3.heap.size w3 wr) (fun i _ => n - (intOf i).toNat)
      case atStart => exact ⟨0, Nat.zero_le _, rfl, Below.refl _ _⟩
      case round =>
        obtain ⟨k, hk, rfl, hb⟩ := hrel
        have HB := Lib.hid hb; clear hb
        by_cases hlt : k < n
        · obtain ⟨b, off, z, eA, hbl, hz, hc0, hc1⟩ := (HRD3.out.below HB.out).ha hlt
          subst eA
          have HZ := Lib.hid hz
          have HIN := Lib.hid (HNM.out z (List.mem_of_getElem? hz))
          clear hz hc0 hc1
          obtain ⟨za, zb⟩ := z
          go_wp2_with fail
          go_loopw [11, 12] (fun f j wr => ∃ i : Nat, i ≤ m ∧ j = .int .i64 i ∧ f = .bool (thJ N ⟨za, zb⟩ i) ∧ Below w3.heap.size w3 wr) (fun _ j _ => m - (intOf j).toNat)
          case atStart => exact ⟨0, Nat.zero_le _, rfl, by rw [thJ_0], HB.out⟩
          case round =>
            obtain ⟨i, hi, rfl, rfl, hb⟩ := hrel
            have HB4 := Lib.hid hb; clear hb
            by_cases hlt2 : i < m
            · obtain ⟨b', off', z', eB, hbl, hz', hc0, hc1⟩ := (HRD3.out.below HB4.out).ha hlt
              injection eB with eB; injection eB with e1 e2
              subst e1; subst e2
              rw [HZ.out] at hz'; injection hz' with hz'; subst hz'
              obtain ⟨g2, off2, y, eA, hbl2, hy, gc0, gc1⟩ := (HRN.out.below HB4.out).ha hlt2
              subst eA
              have HOS := Lib.hid (thJ_succ (z := ⟨za, zb⟩) hy)
              clear hy
              obtain ⟨wo, rfl⟩ : ∃ wo : World, wo = wr := ⟨_, rfl⟩
              cases hok : thJ N ⟨za, zb⟩ i
              · rw [hok] at HOS
                have HO9 := Lib.hid (HOS.out.trans (Bool.false_or _))
                clear HOS
                go_upto_region 18 with (fail)
                refine wp_region_inv' (TabJ 13 (fun j => [64, 65, 66, 67, 68, 69, 70, 71, 72, 73, 74, 75, 11].getD j 0) (fun j v => match j with
                  | 0 => v = .bool false
                  | 1 => v = .bool false
                  | 2 => v = .slice (some ⟨g2, off2, none⟩) m c3
                  | 3 => v = .int .i64 i
                  | 4 => v = .pointer (some ⟨g2, off2 + i * 2, none⟩)
                  | 5 => v = .agg #[.string y.a, .string y.b]
                  | 6 => v = .slice (some ⟨b, off, none⟩) n c
                  | 7 => v = .int .i64 k
                  | 8 => v = .pointer (some ⟨b, off + k * 2, none⟩)
                  | 9 => v = .agg #[.string za, .string zb]
                  | 10 => v = .bool (haE y ⟨za, zb⟩)
                  | 11 => v = .bool (haE y ⟨za, zb⟩)
                  | 12 => v = .bool (haE y ⟨za, zb⟩)
                  | _ => True) 12 (.bool false) 20 21 0 #[] #[] wo) (by kernel_rfl) (regOkI_of (by kernel_rfl)) (TabJ.start (by intro h; rfl)) ?_ ?_
                · intro i o ff bx wb ho hf hrd hcl hsz hfr hJ K hK
                  have hi := (Array.getElem?_eq_some_iff.1 ho).1
                  simp only [List.size_toArray, List.length_cons, List.length_nil] at hi
                  have hcases : i = 0 ∨ i = 1 ∨ i = 2 ∨ i = 3 ∨ i = 4 ∨ i = 5 ∨ i = 6 ∨ i = 7 ∨ i = 8 ∨ i = 9 ∨ i = 10 ∨ i = 11 ∨ i = 12 := by omega
                  have hB := hJ.below.size
                  rcases hcases with rfl | rfl | rfl | rfl | rfl | rfl | rfl | rfl | rfl | rfl | rfl | rfl | rfl
                  · cases (show some _ = some o from ho)
                    refine ite_yes (by rfl) ?_
                    have hjw : ff 12 = false := by
                      cases e : ff 12
                      · rfl
                      · exfalso
                        have e11 := hcl 12 _ ⟨11, .data⟩ rfl e (by simp) rfl
                        have e1 := hcl 11 _ ⟨1, .data⟩ rfl e11 (by simp) rfl
                        have e0 := hcl 1 _ ⟨0, .data⟩ rfl e1 (by simp) rfl
                        rw [show ff 0 = true from e0] at hf; cases hf
                    have h11 : bx.tmps.getD 11 undef = .bool false := hJ.u (by decide) hjw
                    have f11 := getD_opt h11
                    have HK := Lib.hid hK
                    have HJ := Lib.hid hJ
                    clear hK hJ hcl hrd hfr hsz ho
                    go_simp
                    exact HK.out _ _ (HJ.out.pure (by decide +kernel) 0 (by decide) (by decide) (by decide) (by first | rfl | rw [hwk] | rw [hwr]))
                  · cases (show some _ = some o from ho)
                    refine ite_yes (by rfl) ?_
                    have h64 : bx.tmps.getD 64 undef = .bool false := hJ.m 0 (by decide) (hrd ⟨0, .data⟩ (by simp) rfl)
                    have f64 := getD_opt h64
                    have HK := Lib.hid hK
                    have HJ := Lib.hid hJ
                    clear hK hJ hcl hrd hfr hsz ho
                    go_simp
                    exact HK.out _ _ (HJ.out.pure (by decide +kernel) 1 (by decide) (by decide) (by decide) (by first | rfl | rw [hwk] | rw [hwr]))
                  · cases (show some _ = some o from ho)
                    have hg : bx.tmps.getD 65 undef = .bool false := hJ.m 1 (by decide) (hrd ⟨1, .guard⟩ (by simp) rfl)
                    refine ite_yes ((wanted_of rfl rfl rfl hg).trans rfl) ?_
                    have h9 : bx.tmps.getD 9 undef = .slice (some ⟨g2, off2, none⟩) m c3 := hfr 9 (noDst_of (by kernel_rfl))
                    have f9 := getD_opt h9
                    have HK := Lib.hid hK
                    have HJ := Lib.hid hJ
                    clear hK hJ hcl hrd hfr hsz ho
                    go_simp
                    exact HK.out _ _ (HJ.out.pure (by decide +kernel) 2 (by decide) (by decide) (by decide) (by first | rfl | rw [hwk] | rw [hwr]))
                  · cases (show some _ = some o from ho)
                    have hg : bx.tmps.getD 65 undef = .bool false := hJ.m 1 (by decide) (hrd ⟨1, .guard⟩ (by simp) rfl)
                    refine ite_yes ((wanted_of rfl rfl rfl hg).trans rfl) ?_
                    have h12 : bx.tmps.getD 12 undef = .int .i64 i := hfr 12 (noDst_of (by kernel_rfl))
                    have f12 := getD_opt h12
                    have HK := Lib.hid hK
                    have HJ := Lib.hid hJ
                    clear hK hJ hcl hrd hfr hsz ho
                    go_simp
                    exact HK.out _ _ (HJ.out.pure (by decide +kernel) 3 (by decide) (by decide) (by decide) (by first | rfl | rw [hwk] | rw [hwr]))
                  · cases (show some _ = some o from ho)
                    have hg : bx.tmps.getD 65 undef = .bool false := hJ.m 1 (by decide) (hrd ⟨1, .guard⟩ (by simp) rfl)
                    refine ite_yes ((wanted_of rfl rfl rfl hg).trans rfl) ?_
                    have h66 : bx.tmps.getD 66 undef = .slice (some ⟨g2, off2, none⟩) m c3 := hJ.m 2 (by decide) (hrd ⟨2, .data⟩ (by simp) rfl)
                    have f66 := getD_opt h66
                    have h67 : bx.tmps.getD 67 undef = .int .i64 i := hJ.m 3 (by decide) (hrd ⟨3, .data⟩ (by simp) rfl)
                    have f67 := getD_opt h67
                    have HK := Lib.hid hK
                    have HJ := Lib.hid hJ
                    clear hK hJ hcl hrd hfr hsz ho
                    go_simp
                    try rw [if_pos (by omega)]
                    exact HK.out _ _ (HJ.out.pure (by decide +kernel) 4 (by decide) (by decide) (by decide) (by first | rfl | rw [hwk] | rw [hwr]))
                  · cases (show some _ = some o from ho)
                    have hg : bx.tmps.getD 65 undef = .bool false := hJ.m 1 (by decide) (hrd ⟨1, .guard⟩ (by simp) rfl)
                    refine ite_yes ((wanted_of rfl rfl rfl hg).trans rfl) ?_
                    have h68 : bx.tmps.getD 68 undef = .pointer (some ⟨g2, off2 + i * 2, none⟩) := hJ.m 4 (by decide) (hrd ⟨4, .data⟩ (by simp) rfl)
                    have f68 := getD_opt h68
                    have c0 := (hJ.below.cell (p := ⟨g2, off2 + i * 2, none⟩) hbl2).trans gc0
                    have c1 := (hJ.below.cell (p := ⟨g2, off2 + i * 2 + 1, none⟩) hbl2).trans gc1
                    have d0' := (hJ.below.cell (p := ⟨b, off + k * 2, none⟩) hbl).trans hc0
                    have d1' := (hJ.below.cell (p := ⟨b, off + k * 2 + 1, none⟩) hbl).trans hc1
                    have HK := Lib.hid hK
                    have HJ := Lib.hid hJ
                    clear hK hJ hcl hrd hfr hsz ho
                    go_simp
                    exact HK.out _ _ (HJ.out.pure (by decide +kernel) 5 (by decide) (by decide) (by decide) (by first | rfl | rw [hwk] | rw [hwr]))
                  · cases (show some _ = some o from ho)
                    have hg : bx.tmps.getD 65 undef = .bool false := hJ.m 1 (by decide) (hrd ⟨1, .guard⟩ (by simp) rfl)
                    refine ite_yes ((wanted_of rfl rfl rfl hg).trans rfl) ?_
                    have h4 : bx.tmps.getD 4 undef = .slice (some ⟨b, off, none⟩) n c := hfr 4 (noDst_of (by kernel_rfl))
                    have f4 := getD_opt h4
                    have HK := Lib.hid hK
                    have HJ := Lib.hid hJ
                    clear hK hJ hcl hrd hfr hsz ho
                    go_simp
                    exact HK.out _ _ (HJ.out.pure (by decide +kernel) 6 (by decide) (by decide) (by decide) (by first | rfl | rw [hwk] | rw [hwr]))
                  · cases (show some _ = some o from ho)
                    have hg : bx.tmps.getD 65 undef = .bool false := hJ.m 1 (by decide) (hrd ⟨1, .guard⟩ (by simp) rfl)
                    refine ite_yes ((wanted_of rfl rfl rfl hg).trans rfl) ?_
                    have h10 : bx.tmps.getD 10 undef = .int .i64 k := hfr 10 (noDst_of (by kernel_rfl))
                    have f10 := getD_opt h10
                    have HK := Lib.hid hK
                    have HJ := Lib.hid hJ
                    clear hK hJ hcl hrd hfr hsz ho
                    go_simp
                    exact HK.out _ _ (HJ.out.pure (by decide +kernel) 7 (by decide) (by decide) (by decide) (by first | rfl | rw [hwk] | rw [hwr]))
                  · cases (show some _ = some o from ho)
                    have hg : bx.tmps.getD 65 undef = .bool false := hJ.m 1 (by decide) (hrd ⟨1, .guard⟩ (by simp) rfl)
                    refine ite_yes ((wanted_of rfl rfl rfl hg).trans rfl) ?_
                    have h70 : bx.tmps.getD 70 undef = .slice (some ⟨b, off, none⟩) n c := hJ.m 6 (by decide) (hrd ⟨6, .data⟩ (by simp) rfl)
                    have f70 := getD_opt h70
                    have h71 : bx.tmps.getD 71 undef = .int .i64 k := hJ.m 7 (by decide) (hrd ⟨7, .data⟩ (by simp) rfl)
                    have f71 := getD_opt h71
                    have HK := Lib.hid hK
                    have HJ := Lib.hid hJ
                    clear hK hJ hcl hrd hfr hsz ho
                    go_simp
                    try rw [if_pos (by omega)]
                    exact HK.out _ _ (HJ.out.pure (by decide +kernel) 8 (by decide) (by decide) (by decide) (by first | rfl | rw [hwk] | rw [hwr]))
                  · cases (show some _ = some o from ho)
                    have hg : bx.tmps.getD 65 undef = .bool false := hJ.m 1 (by decide) (hrd ⟨1, .guard⟩ (by simp) rfl)
                    refine ite_yes ((wanted_of rfl rfl rfl hg).trans rfl) ?_
                    have h72 : bx.tmps.getD 72 undef = .pointer (some ⟨b, off + k * 2, none⟩) := hJ.m 8 (by decide) (hrd ⟨8, .data⟩ (by simp) rfl)
                    have f72 := getD_opt h72
                    have c0 := (hJ.below.cell (p := ⟨g2, off2 + i * 2, none⟩) hbl2).trans gc0
                    have c1 := (hJ.below.cell (p := ⟨g2, off2 + i * 2 + 1, none⟩) hbl2).trans gc1
                    have d0' := (hJ.below.cell (p := ⟨b, off + k * 2, none⟩) hbl).trans hc0
                    have d1' := (hJ.below.cell (p := ⟨b, off + k * 2 + 1, none⟩) hbl).trans hc1
                    have HK := Lib.hid hK
                    have HJ := Lib.hid hJ
                    clear hK hJ hcl hrd hfr hsz ho
                    go_simp
                    exact HK.out _ _ (HJ.out.pure (by decide +kernel) 9 (by decide) (by decide) (by decide) (by first | rfl | rw [hwk] | rw [hwr]))
                  · cases (show some _ = some o from ho)
                    have hg : bx.tmps.getD 65 undef = .bool false := hJ.m 1 (by decide) (hrd ⟨1, .guard⟩ (by simp) rfl)
                    refine ite_yes ((wanted_of rfl rfl rfl hg).trans rfl) ?_
                    have h69 : bx.tmps.getD 69 undef = .agg #[.string y.a, .string y.b] := hJ.m 5 (by decide) (hrd ⟨5, .data⟩ (by simp) rfl)
                    have f69 := getD_opt h69
                    have h73 : bx.tmps.getD 73 undef = .agg #[.string za, .string zb] := hJ.m 9 (by decide) (hrd ⟨9, .data⟩ (by simp) rfl)
                    have f73 := getD_opt h73
                    have HK := Lib.hid hK
                    have HJ := Lib.hid hJ
                    clear hK hJ hcl hrd hfr hsz ho
                    by_cases h1 : y.a.toList = za.toList
                    · by_cases h2 : y.b.toList = zb.toList
                      · have hE : haE y ⟨za, zb⟩ = true := by simp [haE, h1, h2]
                        go_simp
                        try rw [if_pos h1, if_pos h2]
                        exact HK.out _ _ (HJ.out.pure (by decide +kernel) 10 (by decide) (by decide) (by decide) (by rw [hE]; rfl))
                      · have hE : haE y ⟨za, zb⟩ = false := by simp [haE, h2]
                        go_simp
                        try rw [if_pos h1, if_neg h2]
                        exact HK.out _ _ (HJ.out.pure (by decide +kernel) 10 (by decide) (by decide) (by decide) (by rw [hE]; rfl))
                    · have hE : haE y ⟨za, zb⟩ = false := by simp [haE, h1]
                      go_simp
                      try rw [if_neg h1]
                      exact HK.out _ _ (HJ.out.pure (by decide +kernel) 10 (by decide) (by decide) (by decide) (by rw [hE]; rfl))
                  · cases (show some _ = some o from ho)
                    refine ite_yes (by rfl) ?_
                    have h65 : bx.tmps.getD 65 undef = .bool false := hJ.m 1 (by decide) (hrd ⟨1, .data⟩ (by simp) rfl)
                    have f65 := getD_opt h65
                    have h74 : bx.tmps.getD 74 undef = .bool (haE y ⟨za, zb⟩) := hJ.m 10 (by decide) (hrd ⟨10, .data⟩ (by simp) rfl)
                    have f74 := getD_opt h74
                    have HK := Lib.hid hK
                    have HJ := Lib.hid hJ
                    clear hK hJ hcl hrd hfr hsz ho
                    go_simp
                    exact HK.out _ _ (HJ.out.pure (by decide +kernel) 11 (by decide) (by decide) (by decide) (by first | rfl | rw [hwk] | rw [hwr]))
                  · cases (show some _ = some o from ho)
                    refine ite_yes (by rfl) ?_
                    have h75 : bx.tmps.getD 75 undef = .bool (haE y ⟨za, zb⟩) := hJ.m 11 (by decide) (hrd ⟨11, .data⟩ (by simp) rfl)
                    have f75 := getD_opt h75
                    have HK := Lib.hid hK
                    have HJ := Lib.hid hJ
                    clear hK hJ hcl hrd hfr hsz ho
                    go_simp
                    exact HK.out _ _ (HJ.out.pure (by decide +kernel) 12 (by decide) (by decide) (by decide) (by first | rfl | rw [hwk] | rw [hwr]))
                · intro ff bx wb hall hsz hdf hfr hJ
                  have HBW2 := Lib.hid hJ.below
                  obtain ⟨tm, df⟩ := bx
                  obtain rfl : df = [] := hdf
                  have q0 : tm.getD 0 undef = .slice a len cap := hfr 0 (noDst_of (by kernel_rfl))
                  have q1 : tm.getD 1 undef = undef := hfr 1 (noDst_of (by kernel_rfl))
                  have q2 : tm.getD 2 undef = u2 := hfr 2 (noDst_of (by kernel_rfl))
                  have q3 : tm.getD 3 undef = .string s := hfr 3 (noDst_of (by kernel_rfl))
                  have q4 : tm.getD 4 undef = .slice (some ⟨b, off, none⟩) n c := hfr 4 (noDst_of (by kernel_rfl))
                  have q5 : tm.getD 5 undef = .string X := hfr 5 (noDst_of (by kernel_rfl))
                  have q6 : tm.getD 6 undef = .bool true := hfr 6 (noDst_of (by kernel_rfl))
                  have q7 : tm.getD 7 undef = .string X := hfr 7 (noDst_of (by kernel_rfl))
                  have q8 : tm.getD 8 undef = .bool true := hfr 8 (noDst_of (by kernel_rfl))
                  have q9 : tm.getD 9 undef = .slice (some ⟨g2, off2, none⟩) m c3 := hfr 9 (noDst_of (by kernel_rfl))
                  have q10 : tm.getD 10 undef = .int .i64 k := hfr 10 (noDst_of (by kernel_rfl))
                  have q12 : tm.getD 12 undef = .int .i64 i := hfr 12 (noDst_of (by kernel_rfl))
                  have q13 : tm.getD 13 undef = undef := hfr 13 (noDst_of (by kernel_rfl))
                  have q14 : tm.getD 14 undef = undef := hfr 14 (noDst_of (by kernel_rfl))
                  have q15 : tm.getD 15 undef = .slice a len cap := hfr 15 (noDst_of (by kernel_rfl))
                  have q16 : tm.getD 16 undef = .int .i64 len := hfr 16 (noDst_of (by kernel_rfl))
                  have q17 : tm.getD 17 undef = .bool false := hfr 17 (noDst_of (by kernel_rfl))
                  have q18 : tm.getD 18 undef = .tuple #[.string s, .slice (some ⟨b, off, none⟩) n c] := hfr 18 (noDst_of (by kernel_rfl))
                  have q19 : tm.getD 19 undef = .slice a len cap := hfr 19 (noDst_of (by kernel_rfl))
                  have q20 : tm.getD 20 undef = .tuple #[.string s, .slice (some ⟨b, off, none⟩) n c] := hfr 20 (noDst_of (by kernel_rfl))
                  have q21 : tm.getD 21 undef = .string s := hfr 21 (noDst_of (by kernel_rfl))
                  have q22 : tm.getD 22 undef = .slice (some ⟨b, off, none⟩) n c := hfr 22 (noDst_of (by kernel_rfl))
                  have q23 : tm.getD 23 undef = .tuple #[.string X, .bool true] := hfr 23 (noDst_of (by kernel_rfl))
                  have q24 : tm.getD 24 undef = .string s := hfr 24 (noDst_of (by kernel_rfl))
                  have q25 : tm.getD 25 undef = .slice (some ⟨b, off, none⟩) n c := hfr 25 (noDst_of (by kernel_rfl))
                  have q26 : tm.getD 26 undef = .tuple #[.string X, .bool true] := hfr 26 (noDst_of (by kernel_rfl))
                  have q27 : tm.getD 27 undef = .string X := hfr 27 (noDst_of (by kernel_rfl))
                  have q28 : tm.getD 28 undef = .bool true := hfr 28 (noDst_of (by kernel_rfl))
                  have q29 : tm.getD 29 undef = .tuple #[.string X, .bool true] := hfr 29 (noDst_of (by kernel_rfl))
                  have q30 : tm.getD 30 undef = .string s := hfr 30 (noDst_of (by kernel_rfl))
                  have q31 : tm.getD 31 undef = .slice (some ⟨b, off, none⟩) n c := hfr 31 (noDst_of (by kernel_rfl))
                  have q32 : tm.getD 32 undef = .tuple #[.string X, .bool true] := hfr 32 (noDst_of (by kernel_rfl))
                  have q33 : tm.getD 33 undef = .string X := hfr 33 (noDst_of (by kernel_rfl))
                  have q34 : tm.getD 34 undef = .bool true := hfr 34 (noDst_of (by kernel_rfl))
                  have q35 : tm.getD 35 undef = .string X := hfr 35 (noDst_of (by kernel_rfl))
                  have q36 : tm.getD 36 undef = .string X := hfr 36 (noDst_of (by kernel_rfl))
                  have q37 : tm.getD 37 undef = .bool false := hfr 37 (noDst_of (by kernel_rfl))
                  have q38 : tm.getD 38 undef = .bool false := hfr 38 (noDst_of (by kernel_rfl))
                  have q39 : tm.getD 39 undef = .bool true := hfr 39 (noDst_of (by kernel_rfl))
                  have q40 : tm.getD 40 undef = .bool true := hfr 40 (noDst_of (by kernel_rfl))
                  have q41 : tm.getD 41 undef = .bool false := hfr 41 (noDst_of (by kernel_rfl))
                  have q42 : tm.getD 42 undef = .bool false := hfr 42 (noDst_of (by kernel_rfl))
                  have q43 : tm.getD 43 undef = .bool true := hfr 43 (noDst_of (by kernel_rfl))
                  have q44 : tm.getD 44 undef = .bool false := hfr 44 (noDst_of (by kernel_rfl))
                  have q45 : tm.getD 45 undef = undef := hfr 45 (noDst_of (by kernel_rfl))
                  have q46 : tm.getD 46 undef = undef := hfr 46 (noDst_of (by kernel_rfl))
                  have q47 : tm.getD 47 undef = undef := hfr 47 (noDst_of (by kernel_rfl))
                  have q48 : tm.getD 48 undef = undef := hfr 48 (noDst_of (by kernel_rfl))
                  have q49 : tm.getD 49 undef = undef := hfr 49 (noDst_of (by kernel_rfl))
                  have q50 : tm.getD 50 undef = .string X := hfr 50 (noDst_of (by kernel_rfl))
                  have q51 : tm.getD 51 undef = .slice (some ⟨g2, off2, none⟩) m c3 := hfr 51 (noDst_of (by kernel_rfl))
                  have q52 : tm.getD 52 undef = .int .i64 k := hfr 52 (noDst_of (by kernel_rfl))
                  have q53 : tm.getD 53 undef = .slice (some ⟨b, off, none⟩) n c := hfr 53 (noDst_of (by kernel_rfl))
                  have q54 : tm.getD 54 undef = .int .i64 n := hfr 54 (noDst_of (by kernel_rfl))
                  have q55 : tm.getD 55 undef = .bool true := hfr 55 (noDst_of (by kernel_rfl))
                  have q56 : tm.getD 56 undef = u56 := hfr 56 (noDst_of (by kernel_rfl))
                  have q57 : tm.getD 57 undef = u57 := hfr 57 (noDst_of (by kernel_rfl))
                  have q76 : tm.getD 76 undef = u76 := hfr 76 (noDst_of (by kernel_rfl))
                  have q77 : tm.getD 77 undef = u77 := hfr 77 (noDst_of (by kernel_rfl))
                  have q78 : tm.getD 78 undef = undef := hfr 78 (noDst_of (by kernel_rfl))
                  have q79 : tm.getD 79 undef = undef := hfr 79 (noDst_of (by kernel_rfl))
                  have q80 : tm.getD 80 undef = undef := hfr 80 (noDst_of (by kernel_rfl))
                  have q81 : tm.getD 81 undef = undef := hfr 81 (noDst_of (by kernel_rfl))
                  have q82 : tm.getD 82 undef = undef := hfr 82 (noDst_of (by kernel_rfl))
                  have q83 : tm.getD 83 undef = undef := hfr 83 (noDst_of (by kernel_rfl))
                  have q84 : tm.getD 84 undef = undef := hfr 84 (noDst_of (by kernel_rfl))
                  have q85 : tm.getD 85 undef = undef := hfr 85 (noDst_of (by kernel_rfl))
                  have q86 : tm.getD 86 undef = undef := hfr 86 (noDst_of (by kernel_rfl))
                  have q87 : tm.getD 87 undef = undef := hfr 87 (noDst_of (by kernel_rfl))
                  have q88 : tm.getD 88 undef = undef := hfr 88 (noDst_of (by kernel_rfl))
                  have q89 : tm.getD 89 undef = undef := hfr 89 (noDst_of (by kernel_rfl))
                  have q90 : tm.getD 90 undef = undef := hfr 90 (noDst_of (by kernel_rfl))
                  have q91 : tm.getD 91 undef = undef := hfr 91 (noDst_of (by kernel_rfl))
                  have q92 : tm.getD 92 undef = undef := hfr 92 (noDst_of (by kernel_rfl))
                  have q93 : tm.getD 93 undef = undef := hfr 93 (noDst_of (by kernel_rfl))
                  have q11 : tm.getD 11 undef = .bool (haE y ⟨za, zb⟩) := hJ.m 12 (by decide) (hall 12 (by decide))
                  have q := lit_of tm 94 hsz
                  simp only [List.range, List.range.loop, List.map, q0, q1, q2, q3, q4, q5, q6, q7, q8, q9, q10, q12, q13, q14, q15, q16, q17, q18, q19, q20, q21, q22, q23, q24, q25, q26, q27, q28, q29, q30, q31, q32, q33, q34, q35, q36, q37, q38, q39, q40, q41, q42, q43, q44, q45, q46, q47, q48, q49, q50, q51, q52, q53, q54, q55, q56, q57, q76, q77, q78, q79, q80, q81, q82, q83, q84, q85, q86, q87, q88, q89, q90, q91, q92, q93, q11] at q
                  have HQ := Lib.hid q
                  clear q hsz hfr hJ hall q0 q1 q2 q3 q4 q5 q6 q7 q8 q9 q10 q12 q13 q14 q15 q16 q17 q18 q19 q20 q21 q22 q23 q24 q25 q26 q27 q28 q29 q30 q31 q32 q33 q34 q35 q36 q37 q38 q39 q40 q41 q42 q43 q44 q45 q46 q47 q48 q49 q50 q51 q52 q53 q54 q55 q56 q57 q76 q77 q78 q79 q80 q81 q82 q83 q84 q85 q86 q87 q88 q89 q90 q91 q92 q93 q11
                  rw [HQ.out]
                  generalize tm.getD 58 undef = x58
                  generalize tm.getD 59 undef = x59
                  generalize tm.getD 60 undef = x60
                  generalize tm.getD 61 undef = x61
                  generalize tm.getD 62 undef = x62
                  generalize tm.getD 63 undef = x63
                  generalize tm.getD 64 undef = x64
                  generalize tm.getD 65 undef = x65
                  generalize tm.getD 66 undef = x66
                  generalize tm.getD 67 undef = x67
                  generalize tm.getD 68 undef = x68
                  generalize tm.getD 69 undef = x69
                  generalize tm.getD 70 undef = x70
                  generalize tm.getD 71 undef = x71
                  generalize tm.getD 72 undef = x72
                  generalize tm.getD 73 undef = x73
                  generalize tm.getD 74 undef = x74
                  generalize tm.getD 75 undef = x75
                  clear HQ
                  have hb2 := HBW2.out
                  go_wp2
                  go_roundw
                  case rel => exact ⟨i + 1, by omega, by go_num, by rw [HO9.out], belB HB4.out HB4.out.size hb2⟩
                  case measure => simp [intOf]; omega
              · rw [hok] at HOS
                have HO9 := Lib.hid (HOS.out.trans (Bool.true_or _))
                clear HOS
                go_upto_region 18 with (fail)
                refine wp_region_inv' (TabJ 13 (fun j => [64, 65, 66, 67, 68, 69, 70, 71, 72, 73, 74, 75, 11].getD j 0) (fun j v => match j with
                  | 0 => v = .bool true
                  | 1 => v = .bool true
                  | 2 => v = undef
                  | 3 => v = undef
                  | 4 => v = undef
                  | 5 => v = undef
                  | 6 => v = undef
                  | 7 => v = undef
                  | 8 => v = undef
                  | 9 => v = undef
                  | 10 => v = undef
                  | 11 => v = .bool true
                  | 12 => v = .bool true
                  | _ => True) 12 (.bool true) 20 21 0 #[] #[] wo) (by kernel_rfl) (regOkI_of (by kernel_rfl)) (TabJ.start (by intro h; rfl)) ?_ ?_
                · intro i o ff bx wb ho hf hrd hcl hsz hfr hJ K hK
                  have hi := (Array.getElem?_eq_some_iff.1 ho).1
                  simp only [List.size_toArray, List.length_cons, List.length_nil] at hi
                  have hcases : i = 0 ∨ i = 1 ∨ i = 2 ∨ i = 3 ∨ i = 4 ∨ i = 5 ∨ i = 6 ∨ i = 7 ∨ i = 8 ∨ i = 9 ∨ i = 10 ∨ i = 11 ∨ i = 12 := by omega
                  have hB := hJ.below.size
                  rcases hcases with rfl | rfl | rfl | rfl | rfl | rfl | rfl | rfl | rfl | rfl | rfl | rfl | rfl
                  · cases (show some _ = some o from ho)
                    refine ite_yes (by rfl) ?_
                    have hjw : ff 12 = false := by
                      cases e : ff 12
                      · rfl
                      · exfalso
                        have e11 := hcl 12 _ ⟨11, .data⟩ rfl e (by simp) rfl
                        have e1 := hcl 11 _ ⟨1, .data⟩ rfl e11 (by simp) rfl
                        have e0 := hcl 1 _ ⟨0, .data⟩ rfl e1 (by simp) rfl
                        rw [show ff 0 = true from e0] at hf; cases hf
                    have h11 : bx.tmps.getD 11 undef = .bool true := hJ.u (by decide) hjw
                    have f11 := getD_opt h11
                    have HK := Lib.hid hK
                    have HJ := Lib.hid hJ
                    clear hK hJ hcl hrd hfr hsz ho
                    go_simp
                    exact HK.out _ _ (HJ.out.pure (by decide +kernel) 0 (by decide) (by decide) (by decide) (by first | rfl | rw [hwk] | rw [hwr]))
                  · cases (show some _ = some o from ho)
                    refine ite_yes (by rfl) ?_
                    have h64 : bx.tmps.getD 64 undef = .bool true := hJ.m 0 (by decide) (hrd ⟨0, .data⟩ (by simp) rfl)
                    have f64 := getD_opt h64
                    have HK := Lib.hid hK
                    have HJ := Lib.hid hJ
                    clear hK hJ hcl hrd hfr hsz ho
                    go_simp
                    exact HK.out _ _ (HJ.out.pure (by decide +kernel) 1 (by decide) (by decide) (by decide) (by first | rfl | rw [hwk] | rw [hwr]))
                  · cases (show some _ = some o from ho)
                    have hg : bx.tmps.getD 65 undef = .bool true := hJ.m 1 (by decide) (hrd ⟨1, .guard⟩ (by simp) rfl)
                    refine ite_no ((wanted_of rfl rfl rfl hg).trans rfl) ?_
                    exact hK undef _ (hJ.pure (by decide +kernel) 2 (by decide) (by decide) (by decide) rfl)
                  · cases (show some _ = some o from ho)
                    have hg : bx.tmps.getD 65 undef = .bool true := hJ.m 1 (by decide) (hrd ⟨1, .guard⟩ (by simp) rfl)
                    refine ite_no ((wanted_of rfl rfl rfl hg).trans rfl) ?_
                    exact hK undef _ (hJ.pure (by decide +kernel) 3 (by decide) (by decide) (by decide) rfl)
                  · cases (show some _ = some o from ho)
                    have hg : bx.tmps.getD 65 undef = .bool true := hJ.m 1 (by decide) (hrd ⟨1, .guard⟩ (by simp) rfl)
                    refine ite_no ((wanted_of rfl rfl rfl hg).trans rfl) ?_
                    exact hK undef _ (hJ.pure (by decide +kernel) 4 (by decide) (by decide) (by decide) rfl)
                  · cases (show some _ = some o from ho)
                    have hg : bx.tmps.getD 65 undef = .bool true := hJ.m 1 (by decide) (hrd ⟨1, .guard⟩ (by simp) rfl)
                    refine ite_no ((wanted_of rfl rfl rfl hg).trans rfl) ?_
                    exact hK undef _ (hJ.pure (by decide +kernel) 5 (by decide) (by decide) (by decide) rfl)
                  · cases (show some _ = some o from ho)
                    have hg : bx.tmps.getD 65 undef = .bool true := hJ.m 1 (by decide) (hrd ⟨1, .guard⟩ (by simp) rfl)
                    refine ite_no ((wanted_of rfl rfl rfl hg).trans rfl) ?_
                    exact hK undef _ (hJ.pure (by decide +kernel) 6 (by decide) (by decide) (by decide) rfl)
                  · cases (show some _ = some o from ho)
                    have hg : bx.tmps.getD 65 undef = .bool true := hJ.m 1 (by decide) (hrd ⟨1, .guard⟩ (by simp) rfl)
                    refine ite_no ((wanted_of rfl rfl rfl hg).trans rfl) ?_
                    exact hK undef _ (hJ.pure (by decide +kernel) 7 (by decide) (by decide) (by decide) rfl)
                  · cases (show some _ = some o from ho)
                    have hg : bx.tmps.getD 65 undef = .bool true := hJ.m 1 (by decide) (hrd ⟨1, .guard⟩ (by simp) rfl)
                    refine ite_no ((wanted_of rfl rfl rfl hg).trans rfl) ?_
                    exact hK undef _ (hJ.pure (by decide +kernel) 8 (by decide) (by decide) (by decide) rfl)
                  · cases (show some _ = some o from ho)
                    have hg : bx.tmps.getD 65 undef = .bool true := hJ.m 1 (by decide) (hrd ⟨1, .guard⟩ (by simp) rfl)
                    refine ite_no ((wanted_of rfl rfl rfl hg).trans rfl) ?_
                    exact hK undef _ (hJ.pure (by decide +kernel) 9 (by decide) (by decide) (by decide) rfl)
                  · cases (show some _ = some o from ho)
                    have hg : bx.tmps.getD 65 undef = .bool true := hJ.m 1 (by decide) (hrd ⟨1, .guard⟩ (by simp) rfl)
                    refine ite_no ((wanted_of rfl rfl rfl hg).trans rfl) ?_
                    exact hK undef _ (hJ.pure (by decide +kernel) 10 (by decide) (by decide) (by decide) rfl)
                  · cases (show some _ = some o from ho)
                    refine ite_yes (by rfl) ?_
                    have h65 : bx.tmps.getD 65 undef = .bool true := hJ.m 1 (by decide) (hrd ⟨1, .data⟩ (by simp) rfl)
                    have f65 := getD_opt h65
                    have h74 : bx.tmps.getD 74 undef = undef := hJ.m 10 (by decide) (hrd ⟨10, .data⟩ (by simp) rfl)
                    have HK := Lib.hid hK
                    have HJ := Lib.hid hJ
                    clear hK hJ hcl hrd hfr hsz ho
                    go_simp
                    exact HK.out _ _ (HJ.out.pure (by decide +kernel) 11 (by decide) (by decide) (by decide) (by first | rfl | rw [hwk] | rw [hwr]))
                  · cases (show some _ = some o from ho)
                    refine ite_yes (by rfl) ?_
                    have h75 : bx.tmps.getD 75 undef = .bool true := hJ.m 11 (by decide) (hrd ⟨11, .data⟩ (by simp) rfl)
                    have f75 := getD_opt h75
                    have HK := Lib.hid hK
                    have HJ := Lib.hid hJ
                    clear hK hJ hcl hrd hfr hsz ho
                    go_simp
                    exact HK.out _ _ (HJ.out.pure (by decide +kernel) 12 (by decide) (by decide) (by decide) (by first | rfl | rw [hwk] | rw [hwr]))
                · intro ff bx wb hall hsz hdf hfr hJ
                  have HBW2 := Lib.hid hJ.below
                  obtain ⟨tm, df⟩ := bx
                  obtain rfl : df = [] := hdf
                  have q0 : tm.getD 0 undef = .slice a len cap := hfr 0 (noDst_of (by kernel_rfl))
                  have q1 : tm.getD 1 undef = undef := hfr 1 (noDst_of (by kernel_rfl))
                  have q2 : tm.getD 2 undef = u2 := hfr 2 (noDst_of (by kernel_rfl))
                  have q3 : tm.getD 3 undef = .string s := hfr 3 (noDst_of (by kernel_rfl))
                  have q4 : tm.getD 4 undef = .slice (some ⟨b, off, none⟩) n c := hfr 4 (noDst_of (by kernel_rfl))
                  have q5 : tm.getD 5 undef = .string X := hfr 5 (noDst_of (by kernel_rfl))
                  have q6 : tm.getD 6 undef = .bool true := hfr 6 (noDst_of (by kernel_rfl))
                  have q7 : tm.getD 7 undef = .string X := hfr 7 (noDst_of (by kernel_rfl))
                  have q8 : tm.getD 8 undef = .bool true := hfr 8 (noDst_of (by kernel_rfl))
                  have q9 : tm.getD 9 undef = .slice (some ⟨g2, off2, none⟩) m c3 := hfr 9 (noDst_of (by kernel_rfl))
                  have q10 : tm.getD 10 undef = .int .i64 k := hfr 10 (noDst_of (by kernel_rfl))
                  have q12 : tm.getD 12 undef = .int .i64 i := hfr 12 (noDst_of (by kernel_rfl))
                  have q13 : tm.getD 13 undef = undef := hfr 13 (noDst_of (by kernel_rfl))
                  have q14 : tm.getD 14 undef = undef := hfr 14 (noDst_of (by kernel_rfl))
                  have q15 : tm.getD 15 undef = .slice a len cap := hfr 15 (noDst_of (by kernel_rfl))
                  have q16 : tm.getD 16 undef = .int .i64 len := hfr 16 (noDst_of (by kernel_rfl))
                  have q17 : tm.getD 17 undef = .bool false := hfr 17 (noDst_of (by kernel_rfl))
                  have q18 : tm.getD 18 undef = .tuple #[.string s, .slice (some ⟨b, off, none⟩) n c] := hfr 18 (noDst_of (by kernel_rfl))
                  have q19 : tm.getD 19 undef = .slice a len cap := hfr 19 (noDst_of (by kernel_rfl))
                  have q20 : tm.getD 20 undef = .tuple #[.string s, .slice (some ⟨b, off, none⟩) n c] := hfr 20 (noDst_of (by kernel_rfl))
                  have q21 : tm.getD 21 undef = .string s := hfr 21 (noDst_of (by kernel_rfl))
                  have q22 : tm.getD 22 undef = .slice (some ⟨b, off, none⟩) n c := hfr 22 (noDst_of (by kernel_rfl))
                  have q23 : tm.getD 23 undef = .tuple #[.string X, .bool true] := hfr 23 (noDst_of (by kernel_rfl))
                  have q24 : tm.getD 24 undef = .string s := hfr 24 (noDst_of (by kernel_rfl))
                  have q25 : tm.getD 25 undef = .slice (some ⟨b, off, none⟩) n c := hfr 25 (noDst_of (by kernel_rfl))
                  have q26 : tm.getD 26 undef = .tuple #[.string X, .bool true] := hfr 26 (noDst_of (by kernel_rfl))
                  have q27 : tm.getD 27 undef = .string X := hfr 27 (noDst_of (by kernel_rfl))
                  have q28 : tm.getD 28 undef = .bool true := hfr 28 (noDst_of (by kernel_rfl))
                  have q29 : tm.getD 29 undef = .tuple #[.string X, .bool true] := hfr 29 (noDst_of (by kernel_rfl))
                  have q30 : tm.getD 30 undef = .string s := hfr 30 (noDst_of (by kernel_rfl))
                  have q31 : tm.getD 31 undef = .slice (some ⟨b, off, none⟩) n c := hfr 31 (noDst_of (by kernel_rfl))
                  have q32 : tm.getD 32 undef = .tuple #[.string X, .bool true] := hfr 32 (noDst_of (by kernel_rfl))
                  have q33 : tm.getD 33 undef = .string X := hfr 33 (noDst_of (by kernel_rfl))
                  have q34 : tm.getD 34 undef = .bool true := hfr 34 (noDst_of (by kernel_rfl))
                  have q35 : tm.getD 35 undef = .string X := hfr 35 (noDst_of (by kernel_rfl))
                  have q36 : tm.getD 36 undef = .string X := hfr 36 (noDst_of (by kernel_rfl))
                  have q37 : tm.getD 37 undef = .bool false := hfr 37 (noDst_of (by kernel_rfl))
                  have q38 : tm.getD 38 undef = .bool false := hfr 38 (noDst_of (by kernel_rfl))
                  have q39 : tm.getD 39 undef = .bool true := hfr 39 (noDst_of (by kernel_rfl))
                  have q40 : tm.getD 40 undef = .bool true := hfr 40 (noDst_of (by kernel_rfl))
                  have q41 : tm.getD 41 undef = .bool false := hfr 41 (noDst_of (by kernel_rfl))
                  have q42 : tm.getD 42 undef = .bool false := hfr 42 (noDst_of (by kernel_rfl))
                  have q43 : tm.getD 43 undef = .bool true := hfr 43 (noDst_of (by kernel_rfl))
                  have q44 : tm.getD 44 undef = .bool false := hfr 44 (noDst_of (by kernel_rfl))
                  have q45 : tm.getD 45 undef = undef := hfr 45 (noDst_of (by kernel_rfl))
                  have q46 : tm.getD 46 undef = undef := hfr 46 (noDst_of (by kernel_rfl))
                  have q47 : tm.getD 47 undef = undef := hfr 47 (noDst_of (by kernel_rfl))
                  have q48 : tm.getD 48 undef = undef := hfr 48 (noDst_of (by kernel_rfl))
                  have q49 : tm.getD 49 undef = undef := hfr 49 (noDst_of (by kernel_rfl))
                  have q50 : tm.getD 50 undef = .string X := hfr 50 (noDst_of (by kernel_rfl))
                  have q51 : tm.getD 51 undef = .slice (some ⟨g2, off2, none⟩) m c3 := hfr 51 (noDst_of (by kernel_rfl))
                  have q52 : tm.getD 52 undef = .int .i64 k := hfr 52 (noDst_of (by kernel_rfl))
                  have q53 : tm.getD 53 undef = .slice (some ⟨b, off, none⟩) n c := hfr 53 (noDst_of (by kernel_rfl))
                  have q54 : tm.getD 54 undef = .int .i64 n := hfr 54 (noDst_of (by kernel_rfl))
                  have q55 : tm.getD 55 undef = .bool true := hfr 55 (noDst_of (by kernel_rfl))
                  have q56 : tm.getD 56 undef = u56 := hfr 56 (noDst_of (by kernel_rfl))
                  have q57 : tm.getD 57 undef = u57 := hfr 57 (noDst_of (by kernel_rfl))
                  have q76 : tm.getD 76 undef = u76 := hfr 76 (noDst_of (by kernel_rfl))
                  have q77 : tm.getD 77 undef = u77 := hfr 77 (noDst_of (by kernel_rfl))
                  have q78 : tm.getD 78 undef = undef := hfr 78 (noDst_of (by kernel_rfl))
                  have q79 : tm.getD 79 undef = undef := hfr 79 (noDst_of (by kernel_rfl))
                  have q80 : tm.getD 80 undef = undef := hfr 80 (noDst_of (by kernel_rfl))
                  have q81 : tm.getD 81 undef = undef := hfr 81 (noDst_of (by kernel_rfl))
                  have q82 : tm.getD 82 undef = undef := hfr 82 (noDst_of (by kernel_rfl))
                  have q83 : tm.getD 83 undef = undef := hfr 83 (noDst_of (by kernel_rfl))
                  have q84 : tm.getD 84 undef = undef := hfr 84 (noDst_of (by kernel_rfl))
                  have q85 : tm.getD 85 undef = undef := hfr 85 (noDst_of (by kernel_rfl))
                  have q86 : tm.getD 86 undef = undef := hfr 86 (noDst_of (by kernel_rfl))
                  have q87 : tm.getD 87 undef = undef := hfr 87 (noDst_of (by kernel_rfl))
                  have q88 : tm.getD 88 undef = undef := hfr 88 (noDst_of (by kernel_rfl))
                  have q89 : tm.getD 89 undef = undef := hfr 89 (noDst_of (by kernel_rfl))
                  have q90 : tm.getD 90 undef = undef := hfr 90 (noDst_of (by kernel_rfl))
                  have q91 : tm.getD 91 undef = undef := hfr 91 (noDst_of (by kernel_rfl))
                  have q92 : tm.getD 92 undef = undef := hfr 92 (noDst_of (by kernel_rfl))
                  have q93 : tm.getD 93 undef = undef := hfr 93 (noDst_of (by kernel_rfl))
                  have q11 : tm.getD 11 undef = .bool true := hJ.m 12 (by decide) (hall 12 (by decide))
                  have q := lit_of tm 94 hsz
                  simp only [List.range, List.range.loop, List.map, q0, q1, q2, q3, q4, q5, q6, q7, q8, q9, q10, q12, q13, q14, q15, q16, q17, q18, q19, q20, q21, q22, q23, q24, q25, q26, q27, q28, q29, q30, q31, q32, q33, q34, q35, q36, q37, q38, q39, q40, q41, q42, q43, q44, q45, q46, q47, q48, q49, q50, q51, q52, q53, q54, q55, q56, q57, q76, q77, q78, q79, q80, q81, q82, q83, q84, q85, q86, q87, q88, q89, q90, q91, q92, q93, q11] at q
                  have HQ := Lib.hid q
                  clear q hsz hfr hJ hall q0 q1 q2 q3 q4 q5 q6 q7 q8 q9 q10 q12 q13 q14 q15 q16 q17 q18 q19 q20 q21 q22 q23 q24 q25 q26 q27 q28 q29 q30 q31 q32 q33 q34 q35 q36 q37 q38 q39 q40 q41 q42 q43 q44 q45 q46 q47 q48 q49 q50 q51 q52 q53 q54 q55 q56 q57 q76 q77 q78 q79 q80 q81 q82 q83 q84 q85 q86 q87 q88 q89 q90 q91 q92 q93 q11
                  rw [HQ.out]
                  generalize tm.getD 58 undef = x58
                  generalize tm.getD 59 undef = x59
                  generalize tm.getD 60 undef = x60
                  generalize tm.getD 61 undef = x61
                  generalize tm.getD 62 undef = x62
                  generalize tm.getD 63 undef = x63
                  generalize tm.getD 64 undef = x64
                  generalize tm.getD 65 undef = x65
                  generalize tm.getD 66 undef = x66
                  generalize tm.getD 67 undef = x67
                  generalize tm.getD 68 undef = x68
                  generalize tm.getD 69 undef = x69
                  generalize tm.getD 70 undef = x70
                  generalize tm.getD 71 undef = x71
                  generalize tm.getD 72 undef = x72
                  generalize tm.getD 73 undef = x73
                  generalize tm.getD 74 undef = x74
                  generalize tm.getD 75 undef = x75
                  clear HQ
                  have hb2 := HBW2.out
                  go_wp2
                  go_roundw
                  case rel => exact ⟨i + 1, by omega, by go_num, by rw [HO9.out], belB HB4.out HB4.out.size hb2⟩
                  case measure => simp [intOf]; omega
            · obtain rfl : i = m := by omega
              have hth : thJ N ⟨za, zb⟩ i = true := by rw [← HNL.out, thJ_end]; exact HIN.out
              rw [hth]
              clear hth
              go_wp2
              go_roundw
              case rel => exact ⟨k + 1, by omega, by go_num, HB4.out⟩
              case measure => simp [intOf]; omega
        · obtain rfl : k = n := by omega
          have HBF := Lib.hid (belB HB3.out HB3.out.size HB.out)
          go_wp2_with fail
          refine (HI.out X _ _ _ _ (by omega) (HRD3.out.below HB.out) HNC.out HCM.out).mono ?_
          rw [HAV.out, HAS.out]
          rintro e w5 ⟨rfl, hb5⟩
          have HB5 := Lib.hid (belB HBF.out HBF.out.size hb5)
          clear hb5
          go_wp2_with fail
          refine (itv_any _ _ HXM.out).mono ?_
          rw [HTV.out]
          rintro e w' ⟨rfl, rfl⟩
          go_wp2_with fail
          go_ret
          exact ⟨rfl, HB5.out⟩
end Go.Proofs.YtpbnbekkmifbpaaDoor
