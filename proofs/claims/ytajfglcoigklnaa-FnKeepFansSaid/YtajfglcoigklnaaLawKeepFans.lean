/-
  The walk of the law of KeepFans.
-/
import Derived.Test.YtajfglcoigklnaaDrawFans
import Derived.Test.YtajfglcoigklnaaKeepFans2
import Derived.Test.YtajfglcoigklnaaTab
namespace Go.Proofs.Ytajfglcoigklnaa
open Go.ChangeShapes Go.WideShapes Go.ChangeAt Go.RowKit Go.Joins
set_option linter.unusedVariables false

theorem smbk_max {l : List Bl} (h : ∀ z ∈ l, z.a.size ≤ 9) : ∀ z ∈ l, z.a.size ≤ maxLen := fun z hz => by have := h z hz; simp only [maxLen]; omega
set_option maxRecDepth 100000 in
set_option maxHeartbeats 8000000 in
theorem walkKeepFans (a : Option Addr) (len cap : Nat) (zs : List Int) (w : World) (h : IsCode w a len cap zs) :
    Calls Try.prog 9 #[.slice a len cap] w fun e w' => e = .returned (.bool true) ∧ Below w.heap.size w w' := by
  obtain ⟨hl, hm⟩ := code_len h
  unfold maxLen at hm
  have H := Lib.hid h; clear h
  by_cases hb : (1048576 : Int) < (len : Int)
  · go_enter Try.func9, Try.ntmps9
    go_wp2
    go_ret
    exact ⟨rfl, Below.refl _ _⟩
  · go_enter Try.func9, Try.ntmps9
    go_wp2_with fail
    refine (dkf_any _ _ _ _ _ _ H.out (Below.refl _ _)).mono ?_
    rintro e x1 ⟨v, n, l, v2, m, f, rfl, hn, ho, hs, hmm, hp, hf, hb1⟩
    obtain ⟨A, c, rfl, hnc, hcm, _⟩ := own_form ho
    obtain ⟨F, d, rfl, hmd, hdm, _⟩ := own_form hp
    have HO1 := Lib.hid ho; have HP1 := Lib.hid hp; have HS := Lib.hid (smbk_max hs); have HF := Lib.hid (smh_max hf); have HB1 := Lib.hid hb1
    have HNC := Lib.hid hnc; have HCM := Lib.hid hcm; have HMD := Lib.hid hmd; have HDM := Lib.hid hdm
    have hfl := own_len hp
    rw [has_len] at hfl
    have hll := own_len ho
    rw [bls_len] at hll
    obtain ⟨kf, hkf⟩ : ∃ kf, kfL l f = kf := ⟨_, rfl⟩
    obtain ⟨g, hge⟩ : ∃ g, kf.length = g := ⟨_, rfl⟩
    have hgm : g ≤ m := by rw [← hge, ← hkf]; have := kfL_len l f; omega
    have HKF := Lib.hid hkf; have HGE := Lib.hid hge
    have HAG : Hid (kfL l kf = kf) := Lib.hid (by rw [← hkf]; exact kfL_again l f)
    have HIT : Hid (∀ h ∈ kf, ∀ b ∈ l, blH b h.b = false) := Lib.hid (by rw [← hkf]; exact fun h hh b hb => kfL_hit hh hb)
    have HKS : Hid (∀ h ∈ kf, h.a.size ≤ maxLen ∧ h.b.size ≤ maxLen) := Lib.hid (by rw [← hkf]; exact fun h hh => HF.out h (kfL_mem hh))
    clear ho hp hs hf hb1 hnc hcm hmd hdm hfl hll hkf hge
    go_wp2_with fail
    refine (ikf_any A n c l F m d f x1 (rd_own HO1.out) HNC.out HCM.out HS.out (rd_own HP1.out) (by omega) HMD.out HDM.out HF.out).mono ?_
    rw [HKF.out, HGE.out]
    rintro e x2 ⟨v5, rfl, ho5, hb2⟩
    obtain ⟨G, c5, rfl, hgc, hcg, _⟩ := own_form ho5
    have HG2 := Lib.hid (own_less ho5 HB1.out.size)
    have HO2 := Lib.hid (own_below HO1.out hb2); have HP2 := Lib.hid (own_below HP1.out hb2)
    have HB2 := Lib.hid (belB HB1.out HB1.out.size hb2)
    have HGC := Lib.hid hgc; have HCG := Lib.hid hcg
    clear ho5 hb2 hgc hcg HO1 HP1 HB1
    go_wp2_with fail
    refine (skf_any A n c l F m d f x2 (rd_own HO2.out) HNC.out HCM.out HS.out (rd_own HP2.out) (by omega) HMD.out HDM.out HF.out).mono ?_
    rw [HKF.out, HGE.out]
    rintro e x3 ⟨v6, rfl, ho6, hb3⟩
    obtain ⟨K6, c6, rfl, _, _, _⟩ := own_form ho6
    have HK3 := Lib.hid (own_less ho6 HB2.out.size)
    have HG3 := Lib.hid (own_below HG2.out hb3)
    have HO3 := Lib.hid (own_below HO2.out hb3); have HP3 := Lib.hid (own_below HP2.out hb3)
    have HB3 := Lib.hid (belB HB2.out HB2.out.size hb3)
    clear ho6 hb3 HO2 HP2 HB2 HG2
    go_wp2_with fail
    refine (sh_same G K6 g c5 c6 kf x3 (rd_own HG3.out) (rd_own HK3.out) (by omega)).mono ?_
    rintro e x4 ⟨rfl, hb4⟩
    have HG4 := Lib.hid (own_below HG3.out hb4)
    have HO4 := Lib.hid (own_below HO3.out hb4)
    have HB4 := Lib.hid (belB HB3.out HB3.out.size hb4)
    clear hb4 HO3 HP3 HB3 HG3 HK3
    go_wp2_with fail
    go_loopw [6] (fun i wr => ∃ k : Nat, k ≤ g ∧ i = .int .i64 k ∧ Below x4.heap.size x4 wr) (fun i _ => g - (intOf i).toNat)
    case atStart => exact ⟨0, Nat.zero_le _, rfl, Below.refl _ _⟩
    case round =>
      obtain ⟨k, hk, rfl, hbr⟩ := hrel
      have HB := Lib.hid hbr; clear hbr
      by_cases hlt : k < g
      · obtain ⟨b2, off2, y, eG, hbl2, hy, hd0, hd1⟩ := (rd_own (own_below HG4.out HB.out)).ha hlt
        subst eG
        have HSY := Lib.hid (HKS.out y (List.mem_of_getElem? hy))
        have HY := Lib.hid hy; clear hy hd0 hd1 hbl2
        go_wp2_with fail
        go_loopw [7] (fun j wr => ∃ i : Nat, i ≤ n ∧ j = .int .i64 i ∧ Below x4.heap.size x4 wr) (fun j _ => n - (intOf j).toNat)
        case atStart => exact ⟨0, Nat.zero_le _, rfl, HB.out⟩
        case round =>
          obtain ⟨i, hi, rfl, hbr⟩ := hrel
          clear HB
          have HB := Lib.hid hbr; clear hbr
          by_cases hin : i < n
          · obtain ⟨b, off, z, eA, hbl, hz, hc0, hc1, hc2⟩ := (rd_own (own_below HO4.out HB.out)).bl hin
            subst eA
            obtain ⟨b2', off2', y', eB, hbl2, hy, hd0, hd1⟩ := (rd_own (own_below HG4.out HB.out)).ha hlt
            injection eB with eB; injection eB with e1 e2
            subst e1; subst e2
            rw [HY.out] at hy; injection hy with hy; subst hy
            have HSZ := Lib.hid (HS.out z (List.mem_of_getElem? hz))
            have HNH : Hid (blH z y.b = false) := Lib.hid (HIT.out y (List.mem_of_getElem? HY.out) z (List.mem_of_getElem? hz))
            clear hz
            obtain ⟨wo, rfl⟩ : ∃ wo : World, wo = wr := ⟨_, rfl⟩
            go_upto_region 13 with (fail)
            refine wp_region_inv' (TabJ 10 (fun j => [37, 38, 39, 40, 41, 42, 43, 44, 45, 46].getD j 0) (fun j v => match j with
              | 0 => v = .slice (some ⟨b, off, none⟩) n c
              | 1 => v = .int .i64 i
              | 2 => v = .pointer (some ⟨b, off + i * 3, none⟩)
              | 3 => v = .agg #[.string z.a, .bool z.b, .bool z.c]
              | 4 => v = .slice (some ⟨b2, off2, none⟩) g c5
              | 5 => v = .int .i64 k
              | 6 => v = .pointer (some ⟨b2, off2 + k * 2, none⟩)
              | 7 => v = .pointer (some ⟨b2, off2 + k * 2 + 1, none⟩)
              | 8 => v = .string y.b
              | 9 => v = .bool false
              | _ => True) 17 (undef) 17 18 0 #[] #[] wo) (by kernel_rfl) (regOkI_of (by kernel_rfl)) (TabJ.start (by intro h; exact absurd h (by decide))) ?_ ?_
            · intro i o ff bx wb ho hf hrd hcl hsz hfr hJ K hK
              have hi := (Array.getElem?_eq_some_iff.1 ho).1
              simp only [List.size_toArray, List.length_cons, List.length_nil] at hi
              have hcases : i = 0 ∨ i = 1 ∨ i = 2 ∨ i = 3 ∨ i = 4 ∨ i = 5 ∨ i = 6 ∨ i = 7 ∨ i = 8 ∨ i = 9 := by omega
              have hB := hJ.below.size
              rcases hcases with rfl | rfl | rfl | rfl | rfl | rfl | rfl | rfl | rfl | rfl
              · cases (show some _ = some o from ho)
                refine ite_yes (by rfl) ?_
                have h3 : bx.tmps.getD 3 undef = .slice (some ⟨b, off, none⟩) n c := hfr 3 (noDst_of (by kernel_rfl))
                have f3 := getD_opt h3
                have HK := Lib.hid hK
                have HJ := Lib.hid hJ
                clear hK hJ hcl hrd hfr hsz ho
                go_simp
                exact HK.out _ _ (HJ.out.pure (by decide +kernel) 0 (by decide) (by decide) (by decide) rfl)
              · cases (show some _ = some o from ho)
                refine ite_yes (by rfl) ?_
                have h7 : bx.tmps.getD 7 undef = .int .i64 i := hfr 7 (noDst_of (by kernel_rfl))
                have f7 := getD_opt h7
                have HK := Lib.hid hK
                have HJ := Lib.hid hJ
                clear hK hJ hcl hrd hfr hsz ho
                go_simp
                exact HK.out _ _ (HJ.out.pure (by decide +kernel) 1 (by decide) (by decide) (by decide) rfl)
              · cases (show some _ = some o from ho)
                refine ite_yes (by rfl) ?_
                have h37 : bx.tmps.getD 37 undef = .slice (some ⟨b, off, none⟩) n c := hJ.m 0 (by decide) (hrd ⟨0, .data⟩ (by simp) rfl)
                have f37 := getD_opt h37
                have h38 : bx.tmps.getD 38 undef = .int .i64 i := hJ.m 1 (by decide) (hrd ⟨1, .data⟩ (by simp) rfl)
                have f38 := getD_opt h38
                have HK := Lib.hid hK
                have HJ := Lib.hid hJ
                clear hK hJ hcl hrd hfr hsz ho
                go_simp
                try rw [if_pos (by omega)]
                exact HK.out _ _ (HJ.out.pure (by decide +kernel) 2 (by decide) (by decide) (by decide) rfl)
              · cases (show some _ = some o from ho)
                refine ite_yes (by rfl) ?_
                have h39 : bx.tmps.getD 39 undef = .pointer (some ⟨b, off + i * 3, none⟩) := hJ.m 2 (by decide) (hrd ⟨2, .data⟩ (by simp) rfl)
                have f39 := getD_opt h39
                have e0 := (hJ.below.cell (p := ⟨b, off + i * 3, none⟩) hbl).trans hc0
                have e1 := (hJ.below.cell (p := ⟨b, off + i * 3 + 1, none⟩) hbl).trans hc1
                have e2 := (hJ.below.cell (p := ⟨b, off + i * 3 + 2, none⟩) hbl).trans hc2
                have d1 := (hJ.below.cell (p := ⟨b2, off2 + k * 2 + 1, none⟩) hbl2).trans hd1
                have HK := Lib.hid hK
                have HJ := Lib.hid hJ
                clear hK hJ hcl hrd hfr hsz ho
                go_simp
                exact HK.out _ _ (HJ.out.pure (by decide +kernel) 3 (by decide) (by decide) (by decide) rfl)
              · cases (show some _ = some o from ho)
                refine ite_yes (by rfl) ?_
                have h5 : bx.tmps.getD 5 undef = .slice (some ⟨b2, off2, none⟩) g c5 := hfr 5 (noDst_of (by kernel_rfl))
                have f5 := getD_opt h5
                have HK := Lib.hid hK
                have HJ := Lib.hid hJ
                clear hK hJ hcl hrd hfr hsz ho
                go_simp
                exact HK.out _ _ (HJ.out.pure (by decide +kernel) 4 (by decide) (by decide) (by decide) rfl)
              · cases (show some _ = some o from ho)
                refine ite_yes (by rfl) ?_
                have h6 : bx.tmps.getD 6 undef = .int .i64 k := hfr 6 (noDst_of (by kernel_rfl))
                have f6 := getD_opt h6
                have HK := Lib.hid hK
                have HJ := Lib.hid hJ
                clear hK hJ hcl hrd hfr hsz ho
                go_simp
                exact HK.out _ _ (HJ.out.pure (by decide +kernel) 5 (by decide) (by decide) (by decide) rfl)
              · cases (show some _ = some o from ho)
                refine ite_yes (by rfl) ?_
                have h41 : bx.tmps.getD 41 undef = .slice (some ⟨b2, off2, none⟩) g c5 := hJ.m 4 (by decide) (hrd ⟨4, .data⟩ (by simp) rfl)
                have f41 := getD_opt h41
                have h42 : bx.tmps.getD 42 undef = .int .i64 k := hJ.m 5 (by decide) (hrd ⟨5, .data⟩ (by simp) rfl)
                have f42 := getD_opt h42
                have HK := Lib.hid hK
                have HJ := Lib.hid hJ
                clear hK hJ hcl hrd hfr hsz ho
                go_simp
                try rw [if_pos (by omega)]
                exact HK.out _ _ (HJ.out.pure (by decide +kernel) 6 (by decide) (by decide) (by decide) rfl)
              · cases (show some _ = some o from ho)
                refine ite_yes (by rfl) ?_
                have h43 : bx.tmps.getD 43 undef = .pointer (some ⟨b2, off2 + k * 2, none⟩) := hJ.m 6 (by decide) (hrd ⟨6, .data⟩ (by simp) rfl)
                have f43 := getD_opt h43
                have HK := Lib.hid hK
                have HJ := Lib.hid hJ
                clear hK hJ hcl hrd hfr hsz ho
                go_simp
                exact HK.out _ _ (HJ.out.pure (by decide +kernel) 7 (by decide) (by decide) (by decide) rfl)
              · cases (show some _ = some o from ho)
                refine ite_yes (by rfl) ?_
                have h44 : bx.tmps.getD 44 undef = .pointer (some ⟨b2, off2 + k * 2 + 1, none⟩) := hJ.m 7 (by decide) (hrd ⟨7, .data⟩ (by simp) rfl)
                have f44 := getD_opt h44
                have e0 := (hJ.below.cell (p := ⟨b, off + i * 3, none⟩) hbl).trans hc0
                have e1 := (hJ.below.cell (p := ⟨b, off + i * 3 + 1, none⟩) hbl).trans hc1
                have e2 := (hJ.below.cell (p := ⟨b, off + i * 3 + 2, none⟩) hbl).trans hc2
                have d1 := (hJ.below.cell (p := ⟨b2, off2 + k * 2 + 1, none⟩) hbl2).trans hd1
                have HK := Lib.hid hK
                have HJ := Lib.hid hJ
                clear hK hJ hcl hrd hfr hsz ho
                go_simp
                exact HK.out _ _ (HJ.out.pure (by decide +kernel) 8 (by decide) (by decide) (by decide) rfl)
              · cases (show some _ = some o from ho)
                refine ite_yes (by rfl) ?_
                have h40 : bx.tmps.getD 40 undef = .agg #[.string z.a, .bool z.b, .bool z.c] := hJ.m 3 (by decide) (hrd ⟨3, .data⟩ (by simp) rfl)
                have f40 := getD_opt h40
                have h45 : bx.tmps.getD 45 undef = .string y.b := hJ.m 8 (by decide) (hrd ⟨8, .data⟩ (by simp) rfl)
                have f45 := getD_opt h45
                have HK := Lib.hid hK
                have HJ := Lib.hid hJ
                clear hK hJ hcl hrd hfr hsz ho
                go_simp
                refine (ibh_any _ _ _ _ _ HSY.out.2 HSZ.out).mono ?_
                rw [show bhB z.a z.b y.b = false from HNH.out]
                rintro e w' ⟨rfl, o1, rfl⟩
                exact HK.out _ _ (HJ.out.step (by decide +kernel) 9 (by decide) (by decide) (by decide) (bel1 rfl) rfl)
            · intro ff bx wb hall hsz hdf hfr hJ
              have HBW := Lib.hid hJ.below
              obtain ⟨tm, df⟩ := bx
              obtain rfl : df = [] := hdf
              have q0 : tm.getD 0 undef = .slice a len cap := hfr 0 (noDst_of (by kernel_rfl))
              have q1 : tm.getD 1 undef = undef := hfr 1 (noDst_of (by kernel_rfl))
              have q2 : tm.getD 2 undef = u2 := hfr 2 (noDst_of (by kernel_rfl))
              have q3 : tm.getD 3 undef = .slice (some ⟨b, off, none⟩) n c := hfr 3 (noDst_of (by kernel_rfl))
              have q4 : tm.getD 4 undef = .slice F m d := hfr 4 (noDst_of (by kernel_rfl))
              have q5 : tm.getD 5 undef = .slice (some ⟨b2, off2, none⟩) g c5 := hfr 5 (noDst_of (by kernel_rfl))
              have q6 : tm.getD 6 undef = .int .i64 k := hfr 6 (noDst_of (by kernel_rfl))
              have q7 : tm.getD 7 undef = .int .i64 i := hfr 7 (noDst_of (by kernel_rfl))
              have q8 : tm.getD 8 undef = .slice a len cap := hfr 8 (noDst_of (by kernel_rfl))
              have q9 : tm.getD 9 undef = .int .i64 len := hfr 9 (noDst_of (by kernel_rfl))
              have q10 : tm.getD 10 undef = .bool false := hfr 10 (noDst_of (by kernel_rfl))
              have q11 : tm.getD 11 undef = .tuple #[.slice (some ⟨b, off, none⟩) n c, .slice F m d] := hfr 11 (noDst_of (by kernel_rfl))
              have q12 : tm.getD 12 undef = .slice a len cap := hfr 12 (noDst_of (by kernel_rfl))
              have q13 : tm.getD 13 undef = .tuple #[.slice (some ⟨b, off, none⟩) n c, .slice F m d] := hfr 13 (noDst_of (by kernel_rfl))
              have q14 : tm.getD 14 undef = .slice (some ⟨b, off, none⟩) n c := hfr 14 (noDst_of (by kernel_rfl))
              have q15 : tm.getD 15 undef = .slice F m d := hfr 15 (noDst_of (by kernel_rfl))
              have q16 : tm.getD 16 undef = .slice (some ⟨b, off, none⟩) n c := hfr 16 (noDst_of (by kernel_rfl))
              have q17 : tm.getD 17 undef = .slice F m d := hfr 17 (noDst_of (by kernel_rfl))
              have q18 : tm.getD 18 undef = .slice (some ⟨b2, off2, none⟩) g c5 := hfr 18 (noDst_of (by kernel_rfl))
              have q19 : tm.getD 19 undef = .slice (some ⟨b2, off2, none⟩) g c5 := hfr 19 (noDst_of (by kernel_rfl))
              have q20 : tm.getD 20 undef = .slice (some ⟨b, off, none⟩) n c := hfr 20 (noDst_of (by kernel_rfl))
              have q21 : tm.getD 21 undef = .slice F m d := hfr 21 (noDst_of (by kernel_rfl))
              have q22 : tm.getD 22 undef = .slice K6 g c6 := hfr 22 (noDst_of (by kernel_rfl))
              have q23 : tm.getD 23 undef = .bool true := hfr 23 (noDst_of (by kernel_rfl))
              have q24 : tm.getD 24 undef = .bool false := hfr 24 (noDst_of (by kernel_rfl))
              have q25 : tm.getD 25 undef = .int .i64 k := hfr 25 (noDst_of (by kernel_rfl))
              have q26 : tm.getD 26 undef = .slice (some ⟨b2, off2, none⟩) g c5 := hfr 26 (noDst_of (by kernel_rfl))
              have q27 : tm.getD 27 undef = .int .i64 g := hfr 27 (noDst_of (by kernel_rfl))
              have q28 : tm.getD 28 undef = .bool true := hfr 28 (noDst_of (by kernel_rfl))
              have q29 : tm.getD 29 undef = u29 := hfr 29 (noDst_of (by kernel_rfl))
              have q30 : tm.getD 30 undef = u30 := hfr 30 (noDst_of (by kernel_rfl))
              have q47 : tm.getD 47 undef = undef := hfr 47 (noDst_of (by kernel_rfl))
              have q48 : tm.getD 48 undef = undef := hfr 48 (noDst_of (by kernel_rfl))
              have q49 : tm.getD 49 undef = undef := hfr 49 (noDst_of (by kernel_rfl))
              have q50 : tm.getD 50 undef = undef := hfr 50 (noDst_of (by kernel_rfl))
              have q51 : tm.getD 51 undef = undef := hfr 51 (noDst_of (by kernel_rfl))
              have q52 : tm.getD 52 undef = undef := hfr 52 (noDst_of (by kernel_rfl))
              have q53 : tm.getD 53 undef = undef := hfr 53 (noDst_of (by kernel_rfl))
              have q54 : tm.getD 54 undef = undef := hfr 54 (noDst_of (by kernel_rfl))
              have q55 : tm.getD 55 undef = undef := hfr 55 (noDst_of (by kernel_rfl))
              have q56 : tm.getD 56 undef = undef := hfr 56 (noDst_of (by kernel_rfl))
              have q57 : tm.getD 57 undef = undef := hfr 57 (noDst_of (by kernel_rfl))
              have q58 : tm.getD 58 undef = undef := hfr 58 (noDst_of (by kernel_rfl))
              have q59 : tm.getD 59 undef = undef := hfr 59 (noDst_of (by kernel_rfl))
              have q60 : tm.getD 60 undef = undef := hfr 60 (noDst_of (by kernel_rfl))
              have q61 : tm.getD 61 undef = undef := hfr 61 (noDst_of (by kernel_rfl))
              have q46 : tm.getD 46 undef = .bool false := hJ.m 9 (by decide) (hall 9 (by decide))
              have q := lit_of tm 62 hsz
              simp only [List.range, List.range.loop, List.map, q0, q1, q2, q3, q4, q5, q6, q7, q8, q9, q10, q11, q12, q13, q14, q15, q16, q17, q18, q19, q20, q21, q22, q23, q24, q25, q26, q27, q28, q29, q30, q47, q48, q49, q50, q51, q52, q53, q54, q55, q56, q57, q58, q59, q60, q61, q46] at q
              have HQ := Lib.hid q
              clear q hsz hfr hJ hall q0 q1 q2 q3 q4 q5 q6 q7 q8 q9 q10 q11 q12 q13 q14 q15 q16 q17 q18 q19 q20 q21 q22 q23 q24 q25 q26 q27 q28 q29 q30 q47 q48 q49 q50 q51 q52 q53 q54 q55 q56 q57 q58 q59 q60 q61 q46
              rw [HQ.out]
              generalize tm.getD 31 undef = x31
              generalize tm.getD 32 undef = x32
              generalize tm.getD 33 undef = x33
              generalize tm.getD 34 undef = x34
              generalize tm.getD 35 undef = x35
              generalize tm.getD 36 undef = x36
              generalize tm.getD 37 undef = x37
              generalize tm.getD 38 undef = x38
              generalize tm.getD 39 undef = x39
              generalize tm.getD 40 undef = x40
              generalize tm.getD 41 undef = x41
              generalize tm.getD 42 undef = x42
              generalize tm.getD 43 undef = x43
              generalize tm.getD 44 undef = x44
              generalize tm.getD 45 undef = x45
              clear HQ
              have HB3 := Lib.hid (belB HB.out HB.out.size HBW.out)
              clear HBW
              go_wp2_with fail
              go_roundw
              case rel => first | exact ⟨i + 1, by omega, by go_num, HB3.out⟩ | ((repeat apply Exists.intro); exact ⟨⟨i + 1, by omega, by go_num, HB3.out⟩, rfl⟩)
              case measure => simp [intOf]; omega
          · obtain rfl : i = n := by omega
            go_wp2_with fail
            go_roundw
            case rel => first | exact ⟨k + 1, by omega, by go_num, HB.out⟩ | ((repeat apply Exists.intro); exact ⟨⟨k + 1, by omega, by go_num, HB.out⟩, rfl⟩)
            case measure => simp [intOf]; omega
      · obtain rfl : k = g := by omega
        have HG5 := Lib.hid (own_below HG4.out HB.out)
        have HO5 := Lib.hid (own_below HO4.out HB.out)
        have HB5 := Lib.hid (belB HB4.out HB4.out.size HB.out)
        clear HB HB4 HG4 HO4
        have hdl : decide ((k : Int) ≤ (m : Int)) = true := by simpa using hgm
        go_wp2_with fail
        refine (ikf_any A n c l G k c5 kf wr (rd_own HO5.out) HNC.out HCM.out HS.out (rd_own HG5.out) (by omega) HGC.out HCG.out HKS.out).mono ?_
        rw [HAG.out, HGE.out]
        rintro e y1 ⟨v7, rfl, ho7, hb7⟩
        obtain ⟨K7, c7, rfl, _, _, _⟩ := own_form ho7
        have HK7 := Lib.hid ho7
        have HG6 := Lib.hid (own_below HG5.out hb7)
        have HB6 := Lib.hid (belB HB5.out HB5.out.size hb7)
        clear ho7 hb7 HG5 HB5 HO5
        go_wp2_with fail
        refine (sh_same K7 G k c7 c5 kf y1 (rd_own HK7.out) (rd_own HG6.out) (by omega)).mono ?_
        rintro e y2 ⟨rfl, hb8⟩
        have HB7 := Lib.hid (belB HB6.out HB6.out.size hb8)
        clear hb8 HB6 HG6 HK7
        go_wp2_with (go_at_call 16; refine (alive_any _).mono ?_; rintro e w' ⟨rfl, rfl⟩)
        go_ret
        exact ⟨rfl, HB7.out⟩
end Go.Proofs.Ytajfglcoigklnaa
