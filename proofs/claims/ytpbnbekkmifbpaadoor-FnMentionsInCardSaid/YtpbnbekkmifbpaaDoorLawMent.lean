/-
  The walk of the law of MentionsIn.
-/
import Derived.Test.YtpbnbekkmifbpaaDoorPlTags
import Derived.Test.YtpbnbekkmifbpaaDoorDrawSaid
import Derived.Test.YtpbnbekkmifbpaaDoorSameHa
import Derived.Test.YtpbnbekkmifbpaaDoorWord
namespace Go.Proofs.YtpbnbekkmifbpaaDoor
open Go.ChangeShapes Go.WideShapes Go.ChangeAt Go.RowKit Go.Joins
set_option linter.unusedVariables false

set_option maxRecDepth 100000 in
set_option maxHeartbeats 16000000 in
theorem walkMentionsIn (a : Option Addr) (len cap : Nat) (zs : List Int) (w : World) (h : IsCode w a len cap zs) :
    Calls Tryd.prog 3 #[.slice a len cap] w fun e w' => e = .returned (.bool true) ∧ Below w.heap.size w w' := by
  obtain ⟨hl, hm⟩ := code_len h
  unfold maxLen at hm
  have H := Lib.hid h; clear h
  by_cases hb : (1048576 : Int) < (len : Int)
  · go_enter Tryd.func3, Tryd.ntmps3
    go_wp2
    go_ret
    exact ⟨rfl, Below.refl _ _⟩
  · go_enter Tryd.func3, Tryd.ntmps3
    go_wp2_with fail
    refine (dmn_any _ _ _ _ _ _ H.out (Below.refl _ _)).mono ?_
    rintro e w0 ⟨s, rfl, hs81, hb0⟩
    have HB0 := Lib.hid hb0; clear hb0
    have HI := Lib.hid (fun w => imn_any s w (by omega)); have HSP := Lib.hid (fun w => smn_any s w (by omega))
    have HVAL := Lib.hid (mnB_valid s); have HND := Lib.hid (mnB_nodup s)
    have hxn := mnB_len s
    have HMORE := Lib.hid (fun h => mnB_more (s := s) h)
    generalize mnB s = X at *
    generalize hm : X.length = n at *
    have HXL := Lib.hid hm; clear hm
    have HN : Hid (n ≤ 1048576) := Lib.hid (by omega)
    go_wp2_with fail
    refine (HI.out _).mono ?_
    rintro e x1 ⟨v, rfl, ho, hb⟩
    have HB1 : Hid (Below w0.heap.size w0 x1) := Lib.hid (belt (Below.refl w0.heap.size w0) hb)
    obtain ⟨Ag, cg, rfl, hc1, hc2, _⟩ := own_form ho
    have Rg_1 := Lib.hid ho
    have hbase := (Below.refl w0.heap.size w0).size
    have HBSg : Hid (w0.heap.size ≤ w0.heap.size) := Lib.hid hbase
    clear ho hc1 hc2 hbase hb
    go_wp2_with fail
    refine (HSP.out _).mono ?_
    rintro e x2 ⟨v, rfl, ho, hb⟩
    have HB2 : Hid (Below w0.heap.size w0 x2) := Lib.hid (belt HB1.out hb)
    have Rg_2 := Lib.hid (own_below Rg_1.out hb)
    obtain ⟨As, cs, rfl, hc1, hc2, _⟩ := own_form ho
    have Rs_2 := Lib.hid ho
    have hbase := HB1.out.size
    have HBSs : Hid (w0.heap.size ≤ x1.heap.size) := Lib.hid hbase
    have AP_g_s := Lib.hid (own_apart Rg_1.out ho (Nat.le_refl _))
    clear Rg_1 HB1 ho hc1 hc2 hbase hb
    go_wp2_with fail
    refine (sh_same _ _ _ _ _ _ _ (rd_own Rg_2.out) (rd_own Rs_2.out) HN.out).mono ?_
    rintro e x3 ⟨rfl, hb⟩
    have HB3 : Hid (Below w0.heap.size w0 x3) := Lib.hid (belt HB2.out hb)
    have Rg_3 := Lib.hid (own_below Rg_2.out hb)
    have Rs_3 := Lib.hid (own_below Rs_2.out hb)
    clear Rg_2 Rs_2 HB2 hb
    clear Rs_3
    have HBW := Lib.hid (belB HB0.out HB0.out.size HB3.out)
    have HRX := Lib.hid (rd_own Rg_3.out)
    clear Rg_3 HB3
    generalize hxx : x3 = w1 at *
    clear hxx
    have hcx := Lib.hid (Below.refl w1.heap.size w1)
    go_wp2_with fail
    go_loopw [5] (fun i wr => ∃ k : Nat, k ≤ n ∧ i = .int .i64 k ∧ Below w1.heap.size w1 wr) (fun i _ => n - (intOf i).toNat)
    case atStart => exact ⟨0, Nat.zero_le _, rfl, Below.refl _ _⟩
    case round =>
      obtain ⟨k, hk, rfl, hb⟩ := hrel
      have HB := Lib.hid hb; clear hb
      by_cases hlt : k < n
      · obtain ⟨b, off, z, eA, hbl, hz, hc0, hc1⟩ := (HRX.out.below HB.out).ha hlt
        subst eA
        have HZV := Lib.hid (HVAL.out z (List.mem_of_getElem? hz))
        have HZS : Hid (z.a.size ≤ maxLen ∧ z.b.size ≤ maxLen) := Lib.hid (by have := hdV_size HZV.out; simp only [maxLen]; omega)
        have HZ := Lib.hid hz; clear hz
        obtain ⟨za, zb⟩ := z
        go_wp2_with fail
        refine (hd_impl _ _ _ HZS.out.1 HZS.out.2).mono ?_
        rw [HZV.out]
        rintro e w' ⟨rfl, o, rfl⟩
        have HB2 := Lib.hid (HB.out.alloc HB.out.size o)
        generalize wr.alloc o = wz at *
        clear hc0 hc1
        go_wp2_with fail
        go_loopw [6] (fun i wr => ∃ p : Nat, p ≤ k ∧ i = .int .i64 p ∧ Below w1.heap.size w1 wr) (fun i _ => k - (intOf i).toNat)
        case atStart => exact ⟨0, Nat.zero_le _, rfl, HB2.out⟩
        case round =>
          obtain ⟨p, hp, rfl, hb⟩ := hrel
          have HB3 := Lib.hid hb; clear hb
          by_cases hlt2 : p < k
          · obtain ⟨b2, off2, y, eA, hbl2, hy, gc0, gc1⟩ := (HRX.out.below HB3.out).ha (k := p) (by omega)
            injection eA with eA; injection eA with e1 e2
            subst e1; subst e2
            obtain ⟨b2, off2, z', eA, _, hz', hc0, hc1⟩ := (HRX.out.below HB3.out).ha (k := k) (by omega)
            injection eA with eA; injection eA with e1 e2
            subst e1; subst e2
            rw [HZ.out] at hz'; injection hz' with hz'; subst hz'
            obtain ⟨ya, yb⟩ := y
            have hne : haE ⟨ya, yb⟩ ⟨za, zb⟩ = false := by
              cases e : haE ⟨ya, yb⟩ ⟨za, zb⟩
              · rfl
              · exact absurd (haE_iff.1 e) (nodup_ne HND.out hy HZ.out hlt2)
            have HNE := Lib.hid hne; clear hne
            obtain ⟨wo, rfl⟩ : ∃ wo : World, wo = wr := ⟨_, rfl⟩
            go_upto_region 15 with (fail)
            refine wp_region_inv' (TabJ 9 (fun j => [39, 40, 41, 42, 43, 44, 45, 46, 47].getD j 0) (fun j v => match j with
              | 0 => v = .slice (some ⟨b, off, none⟩) n cg
              | 1 => v = .int .i64 p
              | 2 => v = .pointer (some ⟨b, off + p * 2, none⟩)
              | 3 => v = .agg #[.string ya, .string yb]
              | 4 => v = .slice (some ⟨b, off, none⟩) n cg
              | 5 => v = .int .i64 k
              | 6 => v = .pointer (some ⟨b, off + k * 2, none⟩)
              | 7 => v = .agg #[.string za, .string zb]
              | 8 => v = .bool false
              | _ => True) 16 (undef) 16 17 0 #[] #[] wo) (by kernel_rfl) (regOkI_of (by kernel_rfl)) (TabJ.start (by intro h; exact absurd h (by decide))) ?_ ?_
            · intro i o ff bx wb ho hf hrd hcl hsz hfr hJ K hK
              have hi := (Array.getElem?_eq_some_iff.1 ho).1
              simp only [List.size_toArray, List.length_cons, List.length_nil] at hi
              have hcases : i = 0 ∨ i = 1 ∨ i = 2 ∨ i = 3 ∨ i = 4 ∨ i = 5 ∨ i = 6 ∨ i = 7 ∨ i = 8 := by omega
              have hB := hJ.below.size
              rcases hcases with rfl | rfl | rfl | rfl | rfl | rfl | rfl | rfl | rfl
              · cases (show some _ = some o from ho)
                refine ite_yes (by rfl) ?_
                have h4 : bx.tmps.getD 4 undef = .slice (some ⟨b, off, none⟩) n cg := hfr 4 (noDst_of (by kernel_rfl))
                have f4 := getD_opt h4
                have HK := Lib.hid hK
                have HJ := Lib.hid hJ
                clear hK hJ hcl hrd hfr hsz ho
                go_simp
                exact HK.out _ _ (HJ.out.pure (by decide +kernel) 0 (by decide) (by decide) (by decide) (by first | rfl | rw [hwk] | rw [hwr]))
              · cases (show some _ = some o from ho)
                refine ite_yes (by rfl) ?_
                have h6 : bx.tmps.getD 6 undef = .int .i64 p := hfr 6 (noDst_of (by kernel_rfl))
                have f6 := getD_opt h6
                have HK := Lib.hid hK
                have HJ := Lib.hid hJ
                clear hK hJ hcl hrd hfr hsz ho
                go_simp
                exact HK.out _ _ (HJ.out.pure (by decide +kernel) 1 (by decide) (by decide) (by decide) (by first | rfl | rw [hwk] | rw [hwr]))
              · cases (show some _ = some o from ho)
                refine ite_yes (by rfl) ?_
                have h39 : bx.tmps.getD 39 undef = .slice (some ⟨b, off, none⟩) n cg := hJ.m 0 (by decide) (hrd ⟨0, .data⟩ (by simp) rfl)
                have f39 := getD_opt h39
                have h40 : bx.tmps.getD 40 undef = .int .i64 p := hJ.m 1 (by decide) (hrd ⟨1, .data⟩ (by simp) rfl)
                have f40 := getD_opt h40
                have HK := Lib.hid hK
                have HJ := Lib.hid hJ
                clear hK hJ hcl hrd hfr hsz ho
                go_simp
                try rw [if_pos (by omega)]
                exact HK.out _ _ (HJ.out.pure (by decide +kernel) 2 (by decide) (by decide) (by decide) (by first | rfl | rw [hwk] | rw [hwr]))
              · cases (show some _ = some o from ho)
                refine ite_yes (by rfl) ?_
                have h41 : bx.tmps.getD 41 undef = .pointer (some ⟨b, off + p * 2, none⟩) := hJ.m 2 (by decide) (hrd ⟨2, .data⟩ (by simp) rfl)
                have f41 := getD_opt h41
                have c0 := (hJ.below.cell (p := ⟨b, off + p * 2, none⟩) hbl2).trans gc0
                have c1 := (hJ.below.cell (p := ⟨b, off + p * 2 + 1, none⟩) hbl2).trans gc1
                have d0 := (hJ.below.cell (p := ⟨b, off + k * 2, none⟩) hbl2).trans hc0
                have d1 := (hJ.below.cell (p := ⟨b, off + k * 2 + 1, none⟩) hbl2).trans hc1
                have HK := Lib.hid hK
                have HJ := Lib.hid hJ
                clear hK hJ hcl hrd hfr hsz ho
                go_simp
                exact HK.out _ _ (HJ.out.pure (by decide +kernel) 3 (by decide) (by decide) (by decide) (by first | rfl | rw [hwk] | rw [hwr]))
              · cases (show some _ = some o from ho)
                refine ite_yes (by rfl) ?_
                have h4 : bx.tmps.getD 4 undef = .slice (some ⟨b, off, none⟩) n cg := hfr 4 (noDst_of (by kernel_rfl))
                have f4 := getD_opt h4
                have HK := Lib.hid hK
                have HJ := Lib.hid hJ
                clear hK hJ hcl hrd hfr hsz ho
                go_simp
                exact HK.out _ _ (HJ.out.pure (by decide +kernel) 4 (by decide) (by decide) (by decide) (by first | rfl | rw [hwk] | rw [hwr]))
              · cases (show some _ = some o from ho)
                refine ite_yes (by rfl) ?_
                have h5 : bx.tmps.getD 5 undef = .int .i64 k := hfr 5 (noDst_of (by kernel_rfl))
                have f5 := getD_opt h5
                have HK := Lib.hid hK
                have HJ := Lib.hid hJ
                clear hK hJ hcl hrd hfr hsz ho
                go_simp
                exact HK.out _ _ (HJ.out.pure (by decide +kernel) 5 (by decide) (by decide) (by decide) (by first | rfl | rw [hwk] | rw [hwr]))
              · cases (show some _ = some o from ho)
                refine ite_yes (by rfl) ?_
                have h43 : bx.tmps.getD 43 undef = .slice (some ⟨b, off, none⟩) n cg := hJ.m 4 (by decide) (hrd ⟨4, .data⟩ (by simp) rfl)
                have f43 := getD_opt h43
                have h44 : bx.tmps.getD 44 undef = .int .i64 k := hJ.m 5 (by decide) (hrd ⟨5, .data⟩ (by simp) rfl)
                have f44 := getD_opt h44
                have HK := Lib.hid hK
                have HJ := Lib.hid hJ
                clear hK hJ hcl hrd hfr hsz ho
                go_simp
                try rw [if_pos (by omega)]
                exact HK.out _ _ (HJ.out.pure (by decide +kernel) 6 (by decide) (by decide) (by decide) (by first | rfl | rw [hwk] | rw [hwr]))
              · cases (show some _ = some o from ho)
                refine ite_yes (by rfl) ?_
                have h45 : bx.tmps.getD 45 undef = .pointer (some ⟨b, off + k * 2, none⟩) := hJ.m 6 (by decide) (hrd ⟨6, .data⟩ (by simp) rfl)
                have f45 := getD_opt h45
                have c0 := (hJ.below.cell (p := ⟨b, off + p * 2, none⟩) hbl2).trans gc0
                have c1 := (hJ.below.cell (p := ⟨b, off + p * 2 + 1, none⟩) hbl2).trans gc1
                have d0 := (hJ.below.cell (p := ⟨b, off + k * 2, none⟩) hbl2).trans hc0
                have d1 := (hJ.below.cell (p := ⟨b, off + k * 2 + 1, none⟩) hbl2).trans hc1
                have HK := Lib.hid hK
                have HJ := Lib.hid hJ
                clear hK hJ hcl hrd hfr hsz ho
                go_simp
                exact HK.out _ _ (HJ.out.pure (by decide +kernel) 7 (by decide) (by decide) (by decide) (by first | rfl | rw [hwk] | rw [hwr]))
              · cases (show some _ = some o from ho)
                refine ite_yes (by rfl) ?_
                have h42 : bx.tmps.getD 42 undef = .agg #[.string ya, .string yb] := hJ.m 3 (by decide) (hrd ⟨3, .data⟩ (by simp) rfl)
                have f42 := getD_opt h42
                have h46 : bx.tmps.getD 46 undef = .agg #[.string za, .string zb] := hJ.m 7 (by decide) (hrd ⟨7, .data⟩ (by simp) rfl)
                have f46 := getD_opt h46
                have HK := Lib.hid hK
                have HJ := Lib.hid hJ
                clear hK hJ hcl hrd hfr hsz ho
                by_cases h1 : ya.toList = za.toList
                · by_cases h2 : yb.toList = zb.toList
                  · have hE := HNE.out
                    simp [haE, h1, h2] at hE
                  · go_simp
                    try rw [if_pos h1, if_neg h2]
                    exact HK.out _ _ (HJ.out.pure (by decide +kernel) 8 (by decide) (by decide) (by decide) rfl)
                · go_simp
                  try rw [if_neg h1]
                  exact HK.out _ _ (HJ.out.pure (by decide +kernel) 8 (by decide) (by decide) (by decide) rfl)
            · intro ff bx wb hall hsz hdf hfr hJ
              have HBW2 := Lib.hid hJ.below
              obtain ⟨tm, df⟩ := bx
              obtain rfl : df = [] := hdf
              have q0 : tm.getD 0 undef = .slice a len cap := hfr 0 (noDst_of (by kernel_rfl))
              have q1 : tm.getD 1 undef = undef := hfr 1 (noDst_of (by kernel_rfl))
              have q2 : tm.getD 2 undef = u2 := hfr 2 (noDst_of (by kernel_rfl))
              have q3 : tm.getD 3 undef = .string s := hfr 3 (noDst_of (by kernel_rfl))
              have q4 : tm.getD 4 undef = .slice (some ⟨b, off, none⟩) n cg := hfr 4 (noDst_of (by kernel_rfl))
              have q5 : tm.getD 5 undef = .int .i64 k := hfr 5 (noDst_of (by kernel_rfl))
              have q6 : tm.getD 6 undef = .int .i64 p := hfr 6 (noDst_of (by kernel_rfl))
              have q7 : tm.getD 7 undef = undef := hfr 7 (noDst_of (by kernel_rfl))
              have q8 : tm.getD 8 undef = undef := hfr 8 (noDst_of (by kernel_rfl))
              have q9 : tm.getD 9 undef = undef := hfr 9 (noDst_of (by kernel_rfl))
              have q10 : tm.getD 10 undef = .slice a len cap := hfr 10 (noDst_of (by kernel_rfl))
              have q11 : tm.getD 11 undef = .int .i64 len := hfr 11 (noDst_of (by kernel_rfl))
              have q12 : tm.getD 12 undef = .bool false := hfr 12 (noDst_of (by kernel_rfl))
              have q13 : tm.getD 13 undef = .slice a len cap := hfr 13 (noDst_of (by kernel_rfl))
              have q14 : tm.getD 14 undef = .string s := hfr 14 (noDst_of (by kernel_rfl))
              have q15 : tm.getD 15 undef = .string s := hfr 15 (noDst_of (by kernel_rfl))
              have q16 : tm.getD 16 undef = .slice (some ⟨b, off, none⟩) n cg := hfr 16 (noDst_of (by kernel_rfl))
              have q17 : tm.getD 17 undef = .slice (some ⟨b, off, none⟩) n cg := hfr 17 (noDst_of (by kernel_rfl))
              have q18 : tm.getD 18 undef = .string s := hfr 18 (noDst_of (by kernel_rfl))
              have q19 : tm.getD 19 undef = .slice As n cs := hfr 19 (noDst_of (by kernel_rfl))
              have q20 : tm.getD 20 undef = .bool true := hfr 20 (noDst_of (by kernel_rfl))
              have q21 : tm.getD 21 undef = .bool false := hfr 21 (noDst_of (by kernel_rfl))
              have q22 : tm.getD 22 undef = .int .i64 k := hfr 22 (noDst_of (by kernel_rfl))
              have q23 : tm.getD 23 undef = .slice (some ⟨b, off, none⟩) n cg := hfr 23 (noDst_of (by kernel_rfl))
              have q24 : tm.getD 24 undef = .int .i64 n := hfr 24 (noDst_of (by kernel_rfl))
              have q25 : tm.getD 25 undef = .bool true := hfr 25 (noDst_of (by kernel_rfl))
              have q26 : tm.getD 26 undef = u26 := hfr 26 (noDst_of (by kernel_rfl))
              have q27 : tm.getD 27 undef = u27 := hfr 27 (noDst_of (by kernel_rfl))
              have q28 : tm.getD 28 undef = .slice (some ⟨b, off, none⟩) n cg := hfr 28 (noDst_of (by kernel_rfl))
              have q29 : tm.getD 29 undef = .int .i64 k := hfr 29 (noDst_of (by kernel_rfl))
              have q30 : tm.getD 30 undef = .pointer (some ⟨b, off + k * 2, none⟩) := hfr 30 (noDst_of (by kernel_rfl))
              have q31 : tm.getD 31 undef = .agg #[.string za, .string zb] := hfr 31 (noDst_of (by kernel_rfl))
              have q32 : tm.getD 32 undef = .bool true := hfr 32 (noDst_of (by kernel_rfl))
              have q33 : tm.getD 33 undef = .bool false := hfr 33 (noDst_of (by kernel_rfl))
              have q48 : tm.getD 48 undef = undef := hfr 48 (noDst_of (by kernel_rfl))
              have q49 : tm.getD 49 undef = undef := hfr 49 (noDst_of (by kernel_rfl))
              have q50 : tm.getD 50 undef = undef := hfr 50 (noDst_of (by kernel_rfl))
              have q51 : tm.getD 51 undef = undef := hfr 51 (noDst_of (by kernel_rfl))
              have q52 : tm.getD 52 undef = undef := hfr 52 (noDst_of (by kernel_rfl))
              have q53 : tm.getD 53 undef = undef := hfr 53 (noDst_of (by kernel_rfl))
              have q54 : tm.getD 54 undef = undef := hfr 54 (noDst_of (by kernel_rfl))
              have q55 : tm.getD 55 undef = undef := hfr 55 (noDst_of (by kernel_rfl))
              have q56 : tm.getD 56 undef = undef := hfr 56 (noDst_of (by kernel_rfl))
              have q57 : tm.getD 57 undef = undef := hfr 57 (noDst_of (by kernel_rfl))
              have q58 : tm.getD 58 undef = undef := hfr 58 (noDst_of (by kernel_rfl))
              have q59 : tm.getD 59 undef = undef := hfr 59 (noDst_of (by kernel_rfl))
              have q60 : tm.getD 60 undef = undef := hfr 60 (noDst_of (by kernel_rfl))
              have q61 : tm.getD 61 undef = undef := hfr 61 (noDst_of (by kernel_rfl))
              have q62 : tm.getD 62 undef = undef := hfr 62 (noDst_of (by kernel_rfl))
              have q63 : tm.getD 63 undef = undef := hfr 63 (noDst_of (by kernel_rfl))
              have q64 : tm.getD 64 undef = undef := hfr 64 (noDst_of (by kernel_rfl))
              have q65 : tm.getD 65 undef = undef := hfr 65 (noDst_of (by kernel_rfl))
              have q66 : tm.getD 66 undef = undef := hfr 66 (noDst_of (by kernel_rfl))
              have q67 : tm.getD 67 undef = undef := hfr 67 (noDst_of (by kernel_rfl))
              have q68 : tm.getD 68 undef = undef := hfr 68 (noDst_of (by kernel_rfl))
              have q69 : tm.getD 69 undef = undef := hfr 69 (noDst_of (by kernel_rfl))
              have q70 : tm.getD 70 undef = undef := hfr 70 (noDst_of (by kernel_rfl))
              have q71 : tm.getD 71 undef = undef := hfr 71 (noDst_of (by kernel_rfl))
              have q72 : tm.getD 72 undef = undef := hfr 72 (noDst_of (by kernel_rfl))
              have q73 : tm.getD 73 undef = undef := hfr 73 (noDst_of (by kernel_rfl))
              have q74 : tm.getD 74 undef = undef := hfr 74 (noDst_of (by kernel_rfl))
              have q75 : tm.getD 75 undef = undef := hfr 75 (noDst_of (by kernel_rfl))
              have q76 : tm.getD 76 undef = undef := hfr 76 (noDst_of (by kernel_rfl))
              have q77 : tm.getD 77 undef = undef := hfr 77 (noDst_of (by kernel_rfl))
              have q78 : tm.getD 78 undef = undef := hfr 78 (noDst_of (by kernel_rfl))
              have q79 : tm.getD 79 undef = undef := hfr 79 (noDst_of (by kernel_rfl))
              have q80 : tm.getD 80 undef = undef := hfr 80 (noDst_of (by kernel_rfl))
              have q81 : tm.getD 81 undef = undef := hfr 81 (noDst_of (by kernel_rfl))
              have q82 : tm.getD 82 undef = undef := hfr 82 (noDst_of (by kernel_rfl))
              have q83 : tm.getD 83 undef = undef := hfr 83 (noDst_of (by kernel_rfl))
              have q84 : tm.getD 84 undef = undef := hfr 84 (noDst_of (by kernel_rfl))
              have q85 : tm.getD 85 undef = undef := hfr 85 (noDst_of (by kernel_rfl))
              have q86 : tm.getD 86 undef = undef := hfr 86 (noDst_of (by kernel_rfl))
              have q87 : tm.getD 87 undef = undef := hfr 87 (noDst_of (by kernel_rfl))
              have q47 : tm.getD 47 undef = .bool false := hJ.m 8 (by decide) (hall 8 (by decide))
              have q := lit_of tm 88 hsz
              simp only [List.range, List.range.loop, List.map, q0, q1, q2, q3, q4, q5, q6, q7, q8, q9, q10, q11, q12, q13, q14, q15, q16, q17, q18, q19, q20, q21, q22, q23, q24, q25, q26, q27, q28, q29, q30, q31, q32, q33, q48, q49, q50, q51, q52, q53, q54, q55, q56, q57, q58, q59, q60, q61, q62, q63, q64, q65, q66, q67, q68, q69, q70, q71, q72, q73, q74, q75, q76, q77, q78, q79, q80, q81, q82, q83, q84, q85, q86, q87, q47] at q
              have HQ := Lib.hid q
              clear q hsz hfr hJ hall q0 q1 q2 q3 q4 q5 q6 q7 q8 q9 q10 q11 q12 q13 q14 q15 q16 q17 q18 q19 q20 q21 q22 q23 q24 q25 q26 q27 q28 q29 q30 q31 q32 q33 q48 q49 q50 q51 q52 q53 q54 q55 q56 q57 q58 q59 q60 q61 q62 q63 q64 q65 q66 q67 q68 q69 q70 q71 q72 q73 q74 q75 q76 q77 q78 q79 q80 q81 q82 q83 q84 q85 q86 q87 q47
              rw [HQ.out]
              generalize tm.getD 34 undef = x34
              generalize tm.getD 35 undef = x35
              generalize tm.getD 36 undef = x36
              generalize tm.getD 37 undef = x37
              generalize tm.getD 38 undef = x38
              generalize tm.getD 39 undef = x39
              generalize tm.getD 40 undef = x40
              generalize tm.getD 41 undef = x41
              generalize tm.getD 42 undef = x42
              generalize tm.getD 43 undef = x43
              generalize tm.getD 44 undef = x44
              generalize tm.getD 45 undef = x45
              generalize tm.getD 46 undef = x46
              clear HQ
              have hb2 := HBW2.out
              go_wp2
              go_roundw
              case rel => exact ⟨p + 1, by omega, by go_num, belB HB3.out HB3.out.size hb2⟩
              case measure => simp [intOf]; omega
          · obtain rfl : p = k := by omega
            go_wp2
            go_roundw
            case rel => exact ⟨p + 1, by omega, by go_num, HB3.out⟩
            case measure => simp [intOf]; omega
      · obtain rfl : k = n := by omega
        have hsT : (s ++ ⟨#[32, 64, 122, 111, 101, 64, 105, 99, 101, 33]⟩).size ≤ 91 := by
          rw [ByteArray.size_append]
          have h1 : (⟨#[32, 64, 122, 111, 101, 64, 105, 99, 101, 33]⟩ : ByteArray).size = 10 := rfl
          omega
        have HST : Hid ((s ++ ⟨#[32, 64, 122, 111, 101, 64, 105, 99, 101, 33]⟩).size ≤ maxLen) := Lib.hid (by simp only [maxLen]; omega)
        cases htv : tvB (s ++ ⟨#[32, 64, 122, 111, 101, 64, 105, 99, 101, 33]⟩)
        · go_wp2_with fail
          refine (itv_any _ _ HST.out).mono ?_
          rw [htv]
          rintro e w' ⟨rfl, rfl⟩
          go_wp2_with fail
          refine (alive_any _).mono ?_
          rintro e w' ⟨rfl, rfl⟩
          go_wp2_with fail
          go_ret
          exact ⟨rfl, belB HBW.out HBW.out.size HB.out⟩
        · have HM := Lib.hid (HMORE.out htv)
          have HTV := Lib.hid htv; clear htv
          have HI2 := Lib.hid (fun w => imn_any (s ++ ⟨#[32, 64, 122, 111, 101, 64, 105, 99, 101, 33]⟩) w (by omega))
          generalize mnB (s ++ ⟨#[32, 64, 122, 111, 101, 64, 105, 99, 101, 33]⟩) = M at *
          go_wp2_with fail
          refine (itv_any _ _ HST.out).mono ?_
          rw [HTV.out]
          rintro e w' ⟨rfl, rfl⟩
          go_wp2_with fail
          refine (HI2.out _).mono ?_
          rintro e w2 ⟨v, rfl, ho, hb2⟩
          have HRX2 := Lib.hid ((HRX.out.below HB.out).below hb2)
          have HBZ := Lib.hid (belB (belB HBW.out HBW.out.size HB.out) (Nat.le_trans HBW.out.size HB.out.size) hb2)
          obtain ⟨A2, c2, rfl, hnc2, hcm2, _⟩ := own_form ho
          have HRM := Lib.hid (rd_own ho)
          clear ho hb2 HB HRX HI2
          go_wp2_with fail
          have HZZ : Hid (mnZ = ⟨⟨#[122, 111, 101]⟩, ⟨#[105, 99, 101]⟩⟩) := Lib.hid rfl
          generalize (⟨#[122, 111, 101]⟩ : ByteArray) = qa at *
          generalize (⟨#[105, 99, 101]⟩ : ByteArray) = qb at *
          have HKQ : Hid (Bk (w2.alloc (.cells #[.string qa, .string qb] 29)) w2.heap.size 29 #[.string qa, .string qb]) := Lib.hid (Bk.new w2 _ _)
          have HB3 : Hid (Below w2.heap.size w2 (w2.alloc (.cells #[.string qa, .string qb] 29))) := Lib.hid (bel1 rfl)
          generalize hgq : w2.heap.size = gq at HKQ ⊢
          generalize w2.alloc (.cells #[.string qa, .string qb] 29) = w3 at *
          go_loopw [9] (fun i wr => ∃ p : Nat, p ≤ k ∧ i = .int .i64 p ∧ (∀ t y, t < p → X[t]? = some y → y ≠ mnZ) ∧ Below w2.heap.size w2 wr ∧ Bk wr gq 29 #[.string qa, .string qb]) (fun i _ => k - (intOf i).toNat)
          case atStart => exact ⟨0, Nat.zero_le _, rfl, fun t y h => by omega, HB3.out, HKQ.out⟩
          case round =>
            obtain ⟨p, hp, rfl, hno, hb, hkq⟩ := hrel
            have HB := Lib.hid hb; have HNO := Lib.hid hno; have HK3 := Lib.hid hkq; clear hb hno hkq
            have q0 := HK3.out.cell 0 (v := .string qa) rfl
            have q1 := HK3.out.cell 1 (v := .string qb) rfl
            have hql := HK3.out.lt
            by_cases hlt : p < k
            · obtain ⟨b, off, z, eA, hbl, hz, hc0, hc1⟩ := (HRX2.out.below HB.out).ha hlt
              subst eA
              obtain ⟨za, zb⟩ := z
              obtain ⟨wo, rfl⟩ : ∃ wo : World, wo = wr := ⟨_, rfl⟩
              by_cases hzz : (⟨za, zb⟩ : Ha) = mnZ
              · have hin : inH X mnZ = true := inH_iff.2 (by rw [← hzz]; exact List.mem_of_getElem? hz)
                have HE : Hid (M = X) := Lib.hid (by rw [HM.out, if_pos hin])
                have HML : Hid (M.length = k) := Lib.hid (by rw [HE.out, HXL.out])
                rw [HML.out, HE.out] at HRM
                have HNE : Hid (haE ⟨za, zb⟩ ⟨qa, qb⟩ = true) := Lib.hid (haE_iff.2 (by rw [hzz, HZZ.out]))
                clear hz hzz
                rw [HML.out]
                go_upto_region 24 with (fail)
                refine wp_region_inv' (TabJ 6 (fun j => [63, 64, 65, 66, 67, 68].getD j 0) (fun j v => match j with
                  | 0 => v = .slice (some ⟨b, off, none⟩) k cg
                  | 1 => v = .int .i64 p
                  | 2 => v = .pointer (some ⟨b, off + p * 2, none⟩)
                  | 3 => v = .agg #[.string za, .string zb]
                  | 4 => v = .agg #[.string qa, .string qb]
                  | 5 => v = .bool true
                  | _ => True) 13 (undef) 13 14 0 #[] #[] wo) (by kernel_rfl) (regOkI_of (by kernel_rfl)) (TabJ.start (by intro h; exact absurd h (by decide))) ?_ ?_
                · intro i o ff bx wb ho hf hrd hcl hsz hfr hJ K hK
                  have hi := (Array.getElem?_eq_some_iff.1 ho).1
                  simp only [List.size_toArray, List.length_cons, List.length_nil] at hi
                  have hcases : i = 0 ∨ i = 1 ∨ i = 2 ∨ i = 3 ∨ i = 4 ∨ i = 5 := by omega
                  have hB := hJ.below.size
                  rcases hcases with rfl | rfl | rfl | rfl | rfl | rfl
                  · cases (show some _ = some o from ho)
                    refine ite_yes (by rfl) ?_
                    have h4 : bx.tmps.getD 4 undef = .slice (some ⟨b, off, none⟩) k cg := hfr 4 (noDst_of (by kernel_rfl))
                    have f4 := getD_opt h4
                    have HK := Lib.hid hK
                    have HJ := Lib.hid hJ
                    clear hK hJ hcl hrd hfr hsz ho
                    go_simp
                    exact HK.out _ _ (HJ.out.pure (by decide +kernel) 0 (by decide) (by decide) (by decide) (by first | rfl | rw [hwk] | rw [hwr]))
                  · cases (show some _ = some o from ho)
                    refine ite_yes (by rfl) ?_
                    have h9 : bx.tmps.getD 9 undef = .int .i64 p := hfr 9 (noDst_of (by kernel_rfl))
                    have f9 := getD_opt h9
                    have HK := Lib.hid hK
                    have HJ := Lib.hid hJ
                    clear hK hJ hcl hrd hfr hsz ho
                    go_simp
                    exact HK.out _ _ (HJ.out.pure (by decide +kernel) 1 (by decide) (by decide) (by decide) (by first | rfl | rw [hwk] | rw [hwr]))
                  · cases (show some _ = some o from ho)
                    refine ite_yes (by rfl) ?_
                    have h63 : bx.tmps.getD 63 undef = .slice (some ⟨b, off, none⟩) k cg := hJ.m 0 (by decide) (hrd ⟨0, .data⟩ (by simp) rfl)
                    have f63 := getD_opt h63
                    have h64 : bx.tmps.getD 64 undef = .int .i64 p := hJ.m 1 (by decide) (hrd ⟨1, .data⟩ (by simp) rfl)
                    have f64 := getD_opt h64
                    have HK := Lib.hid hK
                    have HJ := Lib.hid hJ
                    clear hK hJ hcl hrd hfr hsz ho
                    go_simp
                    try rw [if_pos (by omega)]
                    exact HK.out _ _ (HJ.out.pure (by decide +kernel) 2 (by decide) (by decide) (by decide) (by first | rfl | rw [hwk] | rw [hwr]))
                  · cases (show some _ = some o from ho)
                    refine ite_yes (by rfl) ?_
                    have h65 : bx.tmps.getD 65 undef = .pointer (some ⟨b, off + p * 2, none⟩) := hJ.m 2 (by decide) (hrd ⟨2, .data⟩ (by simp) rfl)
                    have f65 := getD_opt h65
                    have c0 := (hJ.below.cell (p := ⟨b, off + p * 2, none⟩) hbl).trans hc0
                    have c1 := (hJ.below.cell (p := ⟨b, off + p * 2 + 1, none⟩) hbl).trans hc1
                    have d0 := (hJ.below.cell (p := ⟨gq, 0, none⟩) hql).trans q0
                    have d1 := (hJ.below.cell (p := ⟨gq, 1, none⟩) hql).trans q1
                    have HK := Lib.hid hK
                    have HJ := Lib.hid hJ
                    clear hK hJ hcl hrd hfr hsz ho
                    go_simp
                    exact HK.out _ _ (HJ.out.pure (by decide +kernel) 3 (by decide) (by decide) (by decide) (by first | rfl | rw [hwk] | rw [hwr]))
                  · cases (show some _ = some o from ho)
                    refine ite_yes (by rfl) ?_
                    have h8 : bx.tmps.getD 8 undef = .pointer (some ⟨gq, 0, none⟩) := hfr 8 (noDst_of (by kernel_rfl))
                    have f8 := getD_opt h8
                    have c0 := (hJ.below.cell (p := ⟨b, off + p * 2, none⟩) hbl).trans hc0
                    have c1 := (hJ.below.cell (p := ⟨b, off + p * 2 + 1, none⟩) hbl).trans hc1
                    have d0 := (hJ.below.cell (p := ⟨gq, 0, none⟩) hql).trans q0
                    have d1 := (hJ.below.cell (p := ⟨gq, 1, none⟩) hql).trans q1
                    have HK := Lib.hid hK
                    have HJ := Lib.hid hJ
                    clear hK hJ hcl hrd hfr hsz ho
                    go_simp
                    exact HK.out _ _ (HJ.out.pure (by decide +kernel) 4 (by decide) (by decide) (by decide) (by first | rfl | rw [hwk] | rw [hwr]))
                  · cases (show some _ = some o from ho)
                    refine ite_yes (by rfl) ?_
                    have h66 : bx.tmps.getD 66 undef = .agg #[.string za, .string zb] := hJ.m 3 (by decide) (hrd ⟨3, .data⟩ (by simp) rfl)
                    have f66 := getD_opt h66
                    have h67 : bx.tmps.getD 67 undef = .agg #[.string qa, .string qb] := hJ.m 4 (by decide) (hrd ⟨4, .data⟩ (by simp) rfl)
                    have f67 := getD_opt h67
                    have HK := Lib.hid hK
                    have HJ := Lib.hid hJ
                    clear hK hJ hcl hrd hfr hsz ho
                    by_cases h1 : za.toList = qa.toList
                    · by_cases h2 : zb.toList = qb.toList
                      · go_simp
                        try rw [if_pos h1, if_pos h2]
                        exact HK.out _ _ (HJ.out.pure (by decide +kernel) 5 (by decide) (by decide) (by decide) rfl)
                      · have hE := HNE.out
                        simp [haE, h1, h2] at hE
                    · have hE := HNE.out
                      simp [haE, h1] at hE
                · intro ff bx wb hall hsz hdf hfr hJ
                  have HBW2 := Lib.hid hJ.below
                  obtain ⟨tm, df⟩ := bx
                  obtain rfl : df = [] := hdf
                  have q4 : tm.getD 4 undef = .slice (some ⟨b, off, none⟩) k cg := hfr 4 (noDst_of (by kernel_rfl))
                  have q7 : tm.getD 7 undef = .slice A2 k c2 := hfr 7 (noDst_of (by kernel_rfl))
                  have q68 : tm.getD 68 undef = .bool true := hJ.m 5 (by decide) (hall 5 (by decide))
                  have q := lit_of tm 88 hsz
                  simp only [List.range, List.range.loop, List.map, q4, q7, q68] at q
                  have HQ := Lib.hid q
                  clear q hsz hfr hJ hall q4 q7 q68
                  rw [HQ.out]
                  generalize tm.getD 0 undef = x0
                  generalize tm.getD 1 undef = x1
                  generalize tm.getD 2 undef = x2
                  generalize tm.getD 3 undef = x3
                  generalize tm.getD 5 undef = x5
                  generalize tm.getD 6 undef = x6
                  generalize tm.getD 8 undef = x8
                  generalize tm.getD 9 undef = x9
                  generalize tm.getD 10 undef = x10
                  generalize tm.getD 11 undef = x11
                  generalize tm.getD 12 undef = x12
                  generalize tm.getD 13 undef = x13
                  generalize tm.getD 14 undef = x14
                  generalize tm.getD 15 undef = x15
                  generalize tm.getD 16 undef = x16
                  generalize tm.getD 17 undef = x17
                  generalize tm.getD 18 undef = x18
                  generalize tm.getD 19 undef = x19
                  generalize tm.getD 20 undef = x20
                  generalize tm.getD 21 undef = x21
                  generalize tm.getD 22 undef = x22
                  generalize tm.getD 23 undef = x23
                  generalize tm.getD 24 undef = x24
                  generalize tm.getD 25 undef = x25
                  generalize tm.getD 26 undef = x26
                  generalize tm.getD 27 undef = x27
                  generalize tm.getD 28 undef = x28
                  generalize tm.getD 29 undef = x29
                  generalize tm.getD 30 undef = x30
                  generalize tm.getD 31 undef = x31
                  generalize tm.getD 32 undef = x32
                  generalize tm.getD 33 undef = x33
                  generalize tm.getD 34 undef = x34
                  generalize tm.getD 35 undef = x35
                  generalize tm.getD 36 undef = x36
                  generalize tm.getD 37 undef = x37
                  generalize tm.getD 38 undef = x38
                  generalize tm.getD 39 undef = x39
                  generalize tm.getD 40 undef = x40
                  generalize tm.getD 41 undef = x41
                  generalize tm.getD 42 undef = x42
                  generalize tm.getD 43 undef = x43
                  generalize tm.getD 44 undef = x44
                  generalize tm.getD 45 undef = x45
                  generalize tm.getD 46 undef = x46
                  generalize tm.getD 47 undef = x47
                  generalize tm.getD 48 undef = x48
                  generalize tm.getD 49 undef = x49
                  generalize tm.getD 50 undef = x50
                  generalize tm.getD 51 undef = x51
                  generalize tm.getD 52 undef = x52
                  generalize tm.getD 53 undef = x53
                  generalize tm.getD 54 undef = x54
                  generalize tm.getD 55 undef = x55
                  generalize tm.getD 56 undef = x56
                  generalize tm.getD 57 undef = x57
                  generalize tm.getD 58 undef = x58
                  generalize tm.getD 59 undef = x59
                  generalize tm.getD 60 undef = x60
                  generalize tm.getD 61 undef = x61
                  generalize tm.getD 62 undef = x62
                  generalize tm.getD 63 undef = x63
                  generalize tm.getD 64 undef = x64
                  generalize tm.getD 65 undef = x65
                  generalize tm.getD 66 undef = x66
                  generalize tm.getD 67 undef = x67
                  generalize tm.getD 69 undef = x69
                  generalize tm.getD 70 undef = x70
                  generalize tm.getD 71 undef = x71
                  generalize tm.getD 72 undef = x72
                  generalize tm.getD 73 undef = x73
                  generalize tm.getD 74 undef = x74
                  generalize tm.getD 75 undef = x75
                  generalize tm.getD 76 undef = x76
                  generalize tm.getD 77 undef = x77
                  generalize tm.getD 78 undef = x78
                  generalize tm.getD 79 undef = x79
                  generalize tm.getD 80 undef = x80
                  generalize tm.getD 81 undef = x81
                  generalize tm.getD 82 undef = x82
                  generalize tm.getD 83 undef = x83
                  generalize tm.getD 84 undef = x84
                  generalize tm.getD 85 undef = x85
                  generalize tm.getD 86 undef = x86
                  generalize tm.getD 87 undef = x87
                  clear HQ
                  have hb2 := HBW2.out
                  have HBF := Lib.hid (belB HB.out HB.out.size hb2)
                  clear hb2
                  go_wp2_with fail
                  refine (sh_same _ _ _ _ _ X _ (HRM.out.below HBF.out) (HRX2.out.below HBF.out) HN.out).mono ?_
                  rintro e w5 ⟨rfl, hb5⟩
                  have HB5 := Lib.hid (belB HBZ.out HBZ.out.size (belt HBF.out hb5))
                  clear hb5
                  go_wp2_with fail
                  go_ret
                  exact ⟨rfl, HB5.out⟩
              · have HNE : Hid (haE ⟨za, zb⟩ ⟨qa, qb⟩ = false) := Lib.hid (by
                  cases e : haE ⟨za, zb⟩ ⟨qa, qb⟩
                  · rfl
                  · exact absurd ((haE_iff.1 e).trans HZZ.out.symm) hzz)
                have HNO2 : Hid (∀ t y, t < p + 1 → X[t]? = some y → y ≠ mnZ) := Lib.hid (fun t y ht hy => by
                  by_cases e : t = p
                  · subst e; rw [hz] at hy; injection hy with hy; subst hy; exact hzz
                  · exact HNO.out t y (by omega) hy)
                clear hz hzz
                go_upto_region 24 with (fail)
                refine wp_region_inv' (TabJ 6 (fun j => [63, 64, 65, 66, 67, 68].getD j 0) (fun j v => match j with
                  | 0 => v = .slice (some ⟨b, off, none⟩) k cg
                  | 1 => v = .int .i64 p
                  | 2 => v = .pointer (some ⟨b, off + p * 2, none⟩)
                  | 3 => v = .agg #[.string za, .string zb]
                  | 4 => v = .agg #[.string qa, .string qb]
                  | 5 => v = .bool false
                  | _ => True) 13 (undef) 13 14 0 #[] #[] wo) (by kernel_rfl) (regOkI_of (by kernel_rfl)) (TabJ.start (by intro h; exact absurd h (by decide))) ?_ ?_
                · intro i o ff bx wb ho hf hrd hcl hsz hfr hJ K hK
                  have hi := (Array.getElem?_eq_some_iff.1 ho).1
                  simp only [List.size_toArray, List.length_cons, List.length_nil] at hi
                  have hcases : i = 0 ∨ i = 1 ∨ i = 2 ∨ i = 3 ∨ i = 4 ∨ i = 5 := by omega
                  have hB := hJ.below.size
                  rcases hcases with rfl | rfl | rfl | rfl | rfl | rfl
                  · cases (show some _ = some o from ho)
                    refine ite_yes (by rfl) ?_
                    have h4 : bx.tmps.getD 4 undef = .slice (some ⟨b, off, none⟩) k cg := hfr 4 (noDst_of (by kernel_rfl))
                    have f4 := getD_opt h4
                    have HK := Lib.hid hK
                    have HJ := Lib.hid hJ
                    clear hK hJ hcl hrd hfr hsz ho
                    go_simp
                    exact HK.out _ _ (HJ.out.pure (by decide +kernel) 0 (by decide) (by decide) (by decide) (by first | rfl | rw [hwk] | rw [hwr]))
                  · cases (show some _ = some o from ho)
                    refine ite_yes (by rfl) ?_
                    have h9 : bx.tmps.getD 9 undef = .int .i64 p := hfr 9 (noDst_of (by kernel_rfl))
                    have f9 := getD_opt h9
                    have HK := Lib.hid hK
                    have HJ := Lib.hid hJ
                    clear hK hJ hcl hrd hfr hsz ho
                    go_simp
                    exact HK.out _ _ (HJ.out.pure (by decide +kernel) 1 (by decide) (by decide) (by decide) (by first | rfl | rw [hwk] | rw [hwr]))
                  · cases (show some _ = some o from ho)
                    refine ite_yes (by rfl) ?_
                    have h63 : bx.tmps.getD 63 undef = .slice (some ⟨b, off, none⟩) k cg := hJ.m 0 (by decide) (hrd ⟨0, .data⟩ (by simp) rfl)
                    have f63 := getD_opt h63
                    have h64 : bx.tmps.getD 64 undef = .int .i64 p := hJ.m 1 (by decide) (hrd ⟨1, .data⟩ (by simp) rfl)
                    have f64 := getD_opt h64
                    have HK := Lib.hid hK
                    have HJ := Lib.hid hJ
                    clear hK hJ hcl hrd hfr hsz ho
                    go_simp
                    try rw [if_pos (by omega)]
                    exact HK.out _ _ (HJ.out.pure (by decide +kernel) 2 (by decide) (by decide) (by decide) (by first | rfl | rw [hwk] | rw [hwr]))
                  · cases (show some _ = some o from ho)
                    refine ite_yes (by rfl) ?_
                    have h65 : bx.tmps.getD 65 undef = .pointer (some ⟨b, off + p * 2, none⟩) := hJ.m 2 (by decide) (hrd ⟨2, .data⟩ (by simp) rfl)
                    have f65 := getD_opt h65
                    have c0 := (hJ.below.cell (p := ⟨b, off + p * 2, none⟩) hbl).trans hc0
                    have c1 := (hJ.below.cell (p := ⟨b, off + p * 2 + 1, none⟩) hbl).trans hc1
                    have d0 := (hJ.below.cell (p := ⟨gq, 0, none⟩) hql).trans q0
                    have d1 := (hJ.below.cell (p := ⟨gq, 1, none⟩) hql).trans q1
                    have HK := Lib.hid hK
                    have HJ := Lib.hid hJ
                    clear hK hJ hcl hrd hfr hsz ho
                    go_simp
                    exact HK.out _ _ (HJ.out.pure (by decide +kernel) 3 (by decide) (by decide) (by decide) (by first | rfl | rw [hwk] | rw [hwr]))
                  · cases (show some _ = some o from ho)
                    refine ite_yes (by rfl) ?_
                    have h8 : bx.tmps.getD 8 undef = .pointer (some ⟨gq, 0, none⟩) := hfr 8 (noDst_of (by kernel_rfl))
                    have f8 := getD_opt h8
                    have c0 := (hJ.below.cell (p := ⟨b, off + p * 2, none⟩) hbl).trans hc0
                    have c1 := (hJ.below.cell (p := ⟨b, off + p * 2 + 1, none⟩) hbl).trans hc1
                    have d0 := (hJ.below.cell (p := ⟨gq, 0, none⟩) hql).trans q0
                    have d1 := (hJ.below.cell (p := ⟨gq, 1, none⟩) hql).trans q1
                    have HK := Lib.hid hK
                    have HJ := Lib.hid hJ
                    clear hK hJ hcl hrd hfr hsz ho
                    go_simp
                    exact HK.out _ _ (HJ.out.pure (by decide +kernel) 4 (by decide) (by decide) (by decide) (by first | rfl | rw [hwk] | rw [hwr]))
                  · cases (show some _ = some o from ho)
                    refine ite_yes (by rfl) ?_
                    have h66 : bx.tmps.getD 66 undef = .agg #[.string za, .string zb] := hJ.m 3 (by decide) (hrd ⟨3, .data⟩ (by simp) rfl)
                    have f66 := getD_opt h66
                    have h67 : bx.tmps.getD 67 undef = .agg #[.string qa, .string qb] := hJ.m 4 (by decide) (hrd ⟨4, .data⟩ (by simp) rfl)
                    have f67 := getD_opt h67
                    have HK := Lib.hid hK
                    have HJ := Lib.hid hJ
                    clear hK hJ hcl hrd hfr hsz ho
                    by_cases h1 : za.toList = qa.toList
                    · by_cases h2 : zb.toList = qb.toList
                      · have hE := HNE.out
                        simp [haE, h1, h2] at hE
                      · go_simp
                        try rw [if_pos h1, if_neg h2]
                        exact HK.out _ _ (HJ.out.pure (by decide +kernel) 5 (by decide) (by decide) (by decide) rfl)
                    · go_simp
                      try rw [if_neg h1]
                      exact HK.out _ _ (HJ.out.pure (by decide +kernel) 5 (by decide) (by decide) (by decide) rfl)
                · intro ff bx wb hall hsz hdf hfr hJ
                  have HBW2 := Lib.hid hJ.below
                  obtain ⟨tm, df⟩ := bx
                  obtain rfl : df = [] := hdf
                  have q0 : tm.getD 0 undef = .slice a len cap := hfr 0 (noDst_of (by kernel_rfl))
                  have q1 : tm.getD 1 undef = undef := hfr 1 (noDst_of (by kernel_rfl))
                  have q2 : tm.getD 2 undef = u2 := hfr 2 (noDst_of (by kernel_rfl))
                  have q3 : tm.getD 3 undef = .string s := hfr 3 (noDst_of (by kernel_rfl))
                  have q4 : tm.getD 4 undef = .slice (some ⟨b, off, none⟩) k cg := hfr 4 (noDst_of (by kernel_rfl))
                  have q5 : tm.getD 5 undef = .int .i64 k := hfr 5 (noDst_of (by kernel_rfl))
                  have q6 : tm.getD 6 undef = u6 := hfr 6 (noDst_of (by kernel_rfl))
                  have q7 : tm.getD 7 undef = .slice A2 M.length c2 := hfr 7 (noDst_of (by kernel_rfl))
                  have q8 : tm.getD 8 undef = .pointer (some ⟨gq, 0, none⟩) := hfr 8 (noDst_of (by kernel_rfl))
                  have q9 : tm.getD 9 undef = .int .i64 p := hfr 9 (noDst_of (by kernel_rfl))
                  have q10 : tm.getD 10 undef = .slice a len cap := hfr 10 (noDst_of (by kernel_rfl))
                  have q11 : tm.getD 11 undef = .int .i64 len := hfr 11 (noDst_of (by kernel_rfl))
                  have q12 : tm.getD 12 undef = .bool false := hfr 12 (noDst_of (by kernel_rfl))
                  have q13 : tm.getD 13 undef = .slice a len cap := hfr 13 (noDst_of (by kernel_rfl))
                  have q14 : tm.getD 14 undef = .string s := hfr 14 (noDst_of (by kernel_rfl))
                  have q15 : tm.getD 15 undef = .string s := hfr 15 (noDst_of (by kernel_rfl))
                  have q16 : tm.getD 16 undef = .slice (some ⟨b, off, none⟩) k cg := hfr 16 (noDst_of (by kernel_rfl))
                  have q17 : tm.getD 17 undef = .slice (some ⟨b, off, none⟩) k cg := hfr 17 (noDst_of (by kernel_rfl))
                  have q18 : tm.getD 18 undef = .string s := hfr 18 (noDst_of (by kernel_rfl))
                  have q19 : tm.getD 19 undef = .slice As k cs := hfr 19 (noDst_of (by kernel_rfl))
                  have q20 : tm.getD 20 undef = .bool true := hfr 20 (noDst_of (by kernel_rfl))
                  have q21 : tm.getD 21 undef = .bool false := hfr 21 (noDst_of (by kernel_rfl))
                  have q22 : tm.getD 22 undef = .int .i64 k := hfr 22 (noDst_of (by kernel_rfl))
                  have q23 : tm.getD 23 undef = .slice (some ⟨b, off, none⟩) k cg := hfr 23 (noDst_of (by kernel_rfl))
                  have q24 : tm.getD 24 undef = .int .i64 k := hfr 24 (noDst_of (by kernel_rfl))
                  have q25 : tm.getD 25 undef = .bool false := hfr 25 (noDst_of (by kernel_rfl))
                  have q26 : tm.getD 26 undef = u26 := hfr 26 (noDst_of (by kernel_rfl))
                  have q27 : tm.getD 27 undef = u27 := hfr 27 (noDst_of (by kernel_rfl))
                  have q28 : tm.getD 28 undef = u28 := hfr 28 (noDst_of (by kernel_rfl))
                  have q29 : tm.getD 29 undef = u29 := hfr 29 (noDst_of (by kernel_rfl))
                  have q30 : tm.getD 30 undef = u30 := hfr 30 (noDst_of (by kernel_rfl))
                  have q31 : tm.getD 31 undef = u31 := hfr 31 (noDst_of (by kernel_rfl))
                  have q32 : tm.getD 32 undef = u32 := hfr 32 (noDst_of (by kernel_rfl))
                  have q33 : tm.getD 33 undef = u33 := hfr 33 (noDst_of (by kernel_rfl))
                  have q34 : tm.getD 34 undef = u34 := hfr 34 (noDst_of (by kernel_rfl))
                  have q35 : tm.getD 35 undef = u35 := hfr 35 (noDst_of (by kernel_rfl))
                  have q36 : tm.getD 36 undef = u36 := hfr 36 (noDst_of (by kernel_rfl))
                  have q37 : tm.getD 37 undef = u37 := hfr 37 (noDst_of (by kernel_rfl))
                  have q38 : tm.getD 38 undef = u38 := hfr 38 (noDst_of (by kernel_rfl))
                  have q39 : tm.getD 39 undef = u39 := hfr 39 (noDst_of (by kernel_rfl))
                  have q40 : tm.getD 40 undef = u40 := hfr 40 (noDst_of (by kernel_rfl))
                  have q41 : tm.getD 41 undef = u41 := hfr 41 (noDst_of (by kernel_rfl))
                  have q42 : tm.getD 42 undef = u42 := hfr 42 (noDst_of (by kernel_rfl))
                  have q43 : tm.getD 43 undef = u43 := hfr 43 (noDst_of (by kernel_rfl))
                  have q44 : tm.getD 44 undef = u44 := hfr 44 (noDst_of (by kernel_rfl))
                  have q45 : tm.getD 45 undef = u45 := hfr 45 (noDst_of (by kernel_rfl))
                  have q46 : tm.getD 46 undef = u46 := hfr 46 (noDst_of (by kernel_rfl))
                  have q47 : tm.getD 47 undef = u47 := hfr 47 (noDst_of (by kernel_rfl))
                  have q48 : tm.getD 48 undef = .string s := hfr 48 (noDst_of (by kernel_rfl))
                  have q49 : tm.getD 49 undef = .string (s ++ ⟨#[32, 64, 122, 111, 101, 64, 105, 99, 101, 33]⟩) := hfr 49 (noDst_of (by kernel_rfl))
                  have q50 : tm.getD 50 undef = .bool true := hfr 50 (noDst_of (by kernel_rfl))
                  have q51 : tm.getD 51 undef = .bool false := hfr 51 (noDst_of (by kernel_rfl))
                  have q52 : tm.getD 52 undef = undef := hfr 52 (noDst_of (by kernel_rfl))
                  have q53 : tm.getD 53 undef = .string s := hfr 53 (noDst_of (by kernel_rfl))
                  have q54 : tm.getD 54 undef = .string (s ++ ⟨#[32, 64, 122, 111, 101, 64, 105, 99, 101, 33]⟩) := hfr 54 (noDst_of (by kernel_rfl))
                  have q55 : tm.getD 55 undef = .slice A2 M.length c2 := hfr 55 (noDst_of (by kernel_rfl))
                  have q56 : tm.getD 56 undef = .agg #[.string qa, .string qb] := hfr 56 (noDst_of (by kernel_rfl))
                  have q72 : tm.getD 72 undef = undef := hfr 72 (noDst_of (by kernel_rfl))
                  have q73 : tm.getD 73 undef = undef := hfr 73 (noDst_of (by kernel_rfl))
                  have q74 : tm.getD 74 undef = undef := hfr 74 (noDst_of (by kernel_rfl))
                  have q75 : tm.getD 75 undef = undef := hfr 75 (noDst_of (by kernel_rfl))
                  have q76 : tm.getD 76 undef = undef := hfr 76 (noDst_of (by kernel_rfl))
                  have q77 : tm.getD 77 undef = undef := hfr 77 (noDst_of (by kernel_rfl))
                  have q78 : tm.getD 78 undef = undef := hfr 78 (noDst_of (by kernel_rfl))
                  have q79 : tm.getD 79 undef = undef := hfr 79 (noDst_of (by kernel_rfl))
                  have q80 : tm.getD 80 undef = undef := hfr 80 (noDst_of (by kernel_rfl))
                  have q81 : tm.getD 81 undef = undef := hfr 81 (noDst_of (by kernel_rfl))
                  have q82 : tm.getD 82 undef = undef := hfr 82 (noDst_of (by kernel_rfl))
                  have q83 : tm.getD 83 undef = undef := hfr 83 (noDst_of (by kernel_rfl))
                  have q84 : tm.getD 84 undef = undef := hfr 84 (noDst_of (by kernel_rfl))
                  have q85 : tm.getD 85 undef = undef := hfr 85 (noDst_of (by kernel_rfl))
                  have q86 : tm.getD 86 undef = undef := hfr 86 (noDst_of (by kernel_rfl))
                  have q87 : tm.getD 87 undef = undef := hfr 87 (noDst_of (by kernel_rfl))
                  have q68 : tm.getD 68 undef = .bool false := hJ.m 5 (by decide) (hall 5 (by decide))
                  have q := lit_of tm 88 hsz
                  simp only [List.range, List.range.loop, List.map, q0, q1, q2, q3, q4, q5, q6, q7, q8, q9, q10, q11, q12, q13, q14, q15, q16, q17, q18, q19, q20, q21, q22, q23, q24, q25, q26, q27, q28, q29, q30, q31, q32, q33, q34, q35, q36, q37, q38, q39, q40, q41, q42, q43, q44, q45, q46, q47, q48, q49, q50, q51, q52, q53, q54, q55, q56, q72, q73, q74, q75, q76, q77, q78, q79, q80, q81, q82, q83, q84, q85, q86, q87, q68] at q
                  have HQ := Lib.hid q
                  clear q hsz hfr hJ hall q0 q1 q2 q3 q4 q5 q6 q7 q8 q9 q10 q11 q12 q13 q14 q15 q16 q17 q18 q19 q20 q21 q22 q23 q24 q25 q26 q27 q28 q29 q30 q31 q32 q33 q34 q35 q36 q37 q38 q39 q40 q41 q42 q43 q44 q45 q46 q47 q48 q49 q50 q51 q52 q53 q54 q55 q56 q72 q73 q74 q75 q76 q77 q78 q79 q80 q81 q82 q83 q84 q85 q86 q87 q68
                  rw [HQ.out]
                  generalize tm.getD 57 undef = x57
                  generalize tm.getD 58 undef = x58
                  generalize tm.getD 59 undef = x59
                  generalize tm.getD 60 undef = x60
                  generalize tm.getD 61 undef = x61
                  generalize tm.getD 62 undef = x62
                  generalize tm.getD 63 undef = x63
                  generalize tm.getD 64 undef = x64
                  generalize tm.getD 65 undef = x65
                  generalize tm.getD 66 undef = x66
                  generalize tm.getD 67 undef = x67
                  generalize tm.getD 69 undef = x69
                  generalize tm.getD 70 undef = x70
                  generalize tm.getD 71 undef = x71
                  clear HQ
                  have hb2 := HBW2.out
                  go_wp2
                  go_roundw
                  case rel => exact ⟨p + 1, by omega, by go_num, HNO2.out, belB HB.out HB.out.size hb2, HK3.out.keep hb2⟩
                  case measure => simp [intOf]; omega
            · obtain rfl : p = k := by omega
              have hin : inH X mnZ = false := by
                cases e : inH X mnZ
                · rfl
                · obtain ⟨t, ht⟩ := List.mem_iff_getElem?.1 (inH_iff.1 e)
                  exact absurd rfl (HNO.out t mnZ (by rw [← HXL.out]; exact get_lt ht) ht)
              have HE : Hid (M = X ++ [mnZ]) := Lib.hid (by rw [HM.out, hin]; rfl)
              have HML : Hid (M.length = p + 1) := Lib.hid (by rw [HE.out, List.length_append, HXL.out]; rfl)
              rw [HML.out] at HRM hnc2
              clear hin
              obtain ⟨b2, off2, y, eA, hbl2, hy, gc0, gc1⟩ := (HRM.out.below HB.out).ha (k := p) (by omega)
              subst eA
              obtain rfl : y = ⟨qa, qb⟩ := by
                rw [HE.out, List.getElem?_append_right (by rw [HXL.out]; exact Nat.le_refl _), HXL.out, Nat.sub_self] at hy
                injection hy with hy; rw [← hy]; exact HZZ.out
              simp only at gc0 gc1
              clear hy
              rw [HML.out]
              obtain ⟨wo, rfl⟩ : ∃ wo : World, wo = wr := ⟨_, rfl⟩
              have hwk : IntKind.i64.wrap ((p : Int) + 1) = (p : Int) + 1 := by rw [IntKind.wrap_i64]; omega
              have hwr : IntKind.i64.wrap (p : Int) = (p : Int) := by rw [IntKind.wrap_i64]; omega
              have hcm2' := hcm2
              unfold maxLen at hcm2'
              go_upto_region 26 with (fail)
              refine wp_region_inv' (TabJ 17 (fun j => [72, 73, 74, 75, 76, 77, 78, 79, 80, 81, 82, 83, 84, 85, 86, 87, 2].getD j 0) (fun j v => match j with
                | 0 => v = .slice (some ⟨b2, off2, none⟩) (p + 1) c2
                | 1 => v = .int .i64 ((p : Int) + 1)
                | 2 => v = .slice Ag p cg
                | 3 => v = .int .i64 (p : Int)
                | 4 => v = .int .i64 ((p : Int) + 1)
                | 5 => v = .bool true
                | 6 => v = .bool true
                | 7 => v = .slice (some ⟨b2, off2, none⟩) (p + 1) c2
                | 8 => v = .slice (some ⟨b2, off2, none⟩) (p + 1) c2
                | 9 => v = .int .i64 ((p : Int) + 1)
                | 10 => v = .int .i64 (p : Int)
                | 11 => v = .pointer (some ⟨b2, off2 + p * 2, none⟩)
                | 12 => v = .agg #[.string qa, .string qb]
                | 13 => v = .agg #[.string qa, .string qb]
                | 14 => v = .bool true
                | 15 => v = .bool true
                | 16 => v = .bool true
                | _ => True) 24 (undef) 24 25 0 #[] #[] wo) (by kernel_rfl) (regOkI_of (by kernel_rfl)) (TabJ.start (by intro h; exact absurd h (by decide))) ?_ ?_
              · intro i o ff bx wb ho hf hrd hcl hsz hfr hJ K hK
                have hi := (Array.getElem?_eq_some_iff.1 ho).1
                simp only [List.size_toArray, List.length_cons, List.length_nil] at hi
                have hcases : i = 0 ∨ i = 1 ∨ i = 2 ∨ i = 3 ∨ i = 4 ∨ i = 5 ∨ i = 6 ∨ i = 7 ∨ i = 8 ∨ i = 9 ∨ i = 10 ∨ i = 11 ∨ i = 12 ∨ i = 13 ∨ i = 14 ∨ i = 15 ∨ i = 16 := by omega
                have hB := hJ.below.size
                rcases hcases with rfl | rfl | rfl | rfl | rfl | rfl | rfl | rfl | rfl | rfl | rfl | rfl | rfl | rfl | rfl | rfl | rfl
                · cases (show some _ = some o from ho)
                  refine ite_yes (by rfl) ?_
                  have h7 : bx.tmps.getD 7 undef = .slice (some ⟨b2, off2, none⟩) (p + 1) c2 := hfr 7 (noDst_of (by kernel_rfl))
                  have f7 := getD_opt h7
                  have HK := Lib.hid hK
                  have HJ := Lib.hid hJ
                  clear hK hJ hcl hrd hfr hsz ho
                  go_simp
                  exact HK.out _ _ (HJ.out.pure (by decide +kernel) 0 (by decide) (by decide) (by decide) (by first | rfl | rw [hwk] | rw [hwr]))
                · cases (show some _ = some o from ho)
                  refine ite_yes (by rfl) ?_
                  have h72 : bx.tmps.getD 72 undef = .slice (some ⟨b2, off2, none⟩) (p + 1) c2 := hJ.m 0 (by decide) (hrd ⟨0, .data⟩ (by simp) rfl)
                  have f72 := getD_opt h72
                  have HK := Lib.hid hK
                  have HJ := Lib.hid hJ
                  clear hK hJ hcl hrd hfr hsz ho
                  go_simp
                  exact HK.out _ _ (HJ.out.pure (by decide +kernel) 1 (by decide) (by decide) (by decide) (by first | rfl | rw [hwk] | rw [hwr]))
                · cases (show some _ = some o from ho)
                  refine ite_yes (by rfl) ?_
                  have h4 : bx.tmps.getD 4 undef = .slice Ag p cg := hfr 4 (noDst_of (by kernel_rfl))
                  have f4 := getD_opt h4
                  have HK := Lib.hid hK
                  have HJ := Lib.hid hJ
                  clear hK hJ hcl hrd hfr hsz ho
                  go_simp
                  exact HK.out _ _ (HJ.out.pure (by decide +kernel) 2 (by decide) (by decide) (by decide) (by first | rfl | rw [hwk] | rw [hwr]))
                · cases (show some _ = some o from ho)
                  refine ite_yes (by rfl) ?_
                  have h74 : bx.tmps.getD 74 undef = .slice Ag p cg := hJ.m 2 (by decide) (hrd ⟨2, .data⟩ (by simp) rfl)
                  have f74 := getD_opt h74
                  have HK := Lib.hid hK
                  have HJ := Lib.hid hJ
                  clear hK hJ hcl hrd hfr hsz ho
                  go_simp
                  exact HK.out _ _ (HJ.out.pure (by decide +kernel) 3 (by decide) (by decide) (by decide) (by first | rfl | rw [hwk] | rw [hwr]))
                · cases (show some _ = some o from ho)
                  refine ite_yes (by rfl) ?_
                  have h75 : bx.tmps.getD 75 undef = .int .i64 (p : Int) := hJ.m 3 (by decide) (hrd ⟨3, .data⟩ (by simp) rfl)
                  have f75 := getD_opt h75
                  have HK := Lib.hid hK
                  have HJ := Lib.hid hJ
                  clear hK hJ hcl hrd hfr hsz ho
                  go_simp
                  exact HK.out _ _ (HJ.out.pure (by decide +kernel) 4 (by decide) (by decide) (by decide) (by first | rfl | rw [hwk] | rw [hwr]))
                · cases (show some _ = some o from ho)
                  refine ite_yes (by rfl) ?_
                  have h73 : bx.tmps.getD 73 undef = .int .i64 ((p : Int) + 1) := hJ.m 1 (by decide) (hrd ⟨1, .data⟩ (by simp) rfl)
                  have f73 := getD_opt h73
                  have h76 : bx.tmps.getD 76 undef = .int .i64 ((p : Int) + 1) := hJ.m 4 (by decide) (hrd ⟨4, .data⟩ (by simp) rfl)
                  have f76 := getD_opt h76
                  have HK := Lib.hid hK
                  have HJ := Lib.hid hJ
                  clear hK hJ hcl hrd hfr hsz ho
                  go_simp
                  exact HK.out _ _ (HJ.out.pure (by decide +kernel) 5 (by decide) (by decide) (by decide) (by first | rfl | rw [hwk] | rw [hwr]))
                · cases (show some _ = some o from ho)
                  refine ite_yes (by rfl) ?_
                  have h77 : bx.tmps.getD 77 undef = .bool true := hJ.m 5 (by decide) (hrd ⟨5, .data⟩ (by simp) rfl)
                  have f77 := getD_opt h77
                  have HK := Lib.hid hK
                  have HJ := Lib.hid hJ
                  clear hK hJ hcl hrd hfr hsz ho
                  go_simp
                  exact HK.out _ _ (HJ.out.pure (by decide +kernel) 6 (by decide) (by decide) (by decide) (by first | rfl | rw [hwk] | rw [hwr]))
                · cases (show some _ = some o from ho)
                  have hg : bx.tmps.getD 78 undef = .bool true := hJ.m 6 (by decide) (hrd ⟨6, .guard⟩ (by simp) rfl)
                  refine ite_yes ((wanted_of rfl rfl rfl hg).trans rfl) ?_
                  have h7 : bx.tmps.getD 7 undef = .slice (some ⟨b2, off2, none⟩) (p + 1) c2 := hfr 7 (noDst_of (by kernel_rfl))
                  have f7 := getD_opt h7
                  have HK := Lib.hid hK
                  have HJ := Lib.hid hJ
                  clear hK hJ hcl hrd hfr hsz ho
                  go_simp
                  exact HK.out _ _ (HJ.out.pure (by decide +kernel) 7 (by decide) (by decide) (by decide) (by first | rfl | rw [hwk] | rw [hwr]))
                · cases (show some _ = some o from ho)
                  have hg : bx.tmps.getD 78 undef = .bool true := hJ.m 6 (by decide) (hrd ⟨6, .guard⟩ (by simp) rfl)
                  refine ite_yes ((wanted_of rfl rfl rfl hg).trans rfl) ?_
                  have h7 : bx.tmps.getD 7 undef = .slice (some ⟨b2, off2, none⟩) (p + 1) c2 := hfr 7 (noDst_of (by kernel_rfl))
                  have f7 := getD_opt h7
                  have HK := Lib.hid hK
                  have HJ := Lib.hid hJ
                  clear hK hJ hcl hrd hfr hsz ho
                  go_simp
                  exact HK.out _ _ (HJ.out.pure (by decide +kernel) 8 (by decide) (by decide) (by decide) (by first | rfl | rw [hwk] | rw [hwr]))
                · cases (show some _ = some o from ho)
                  have hg : bx.tmps.getD 78 undef = .bool true := hJ.m 6 (by decide) (hrd ⟨6, .guard⟩ (by simp) rfl)
                  refine ite_yes ((wanted_of rfl rfl rfl hg).trans rfl) ?_
                  have h80 : bx.tmps.getD 80 undef = .slice (some ⟨b2, off2, none⟩) (p + 1) c2 := hJ.m 8 (by decide) (hrd ⟨8, .data⟩ (by simp) rfl)
                  have f80 := getD_opt h80
                  have HK := Lib.hid hK
                  have HJ := Lib.hid hJ
                  clear hK hJ hcl hrd hfr hsz ho
                  go_simp
                  exact HK.out _ _ (HJ.out.pure (by decide +kernel) 9 (by decide) (by decide) (by decide) (by first | rfl | rw [hwk] | rw [hwr]))
                · cases (show some _ = some o from ho)
                  have hg : bx.tmps.getD 78 undef = .bool true := hJ.m 6 (by decide) (hrd ⟨6, .guard⟩ (by simp) rfl)
                  refine ite_yes ((wanted_of rfl rfl rfl hg).trans rfl) ?_
                  have h81 : bx.tmps.getD 81 undef = .int .i64 ((p : Int) + 1) := hJ.m 9 (by decide) (hrd ⟨9, .data⟩ (by simp) rfl)
                  have f81 := getD_opt h81
                  have HK := Lib.hid hK
                  have HJ := Lib.hid hJ
                  clear hK hJ hcl hrd hfr hsz ho
                  go_simp
                  exact HK.out _ _ (HJ.out.pure (by decide +kernel) 10 (by decide) (by decide) (by decide) (by first | rfl | rw [hwk] | rw [hwr]))
                · cases (show some _ = some o from ho)
                  have hg : bx.tmps.getD 78 undef = .bool true := hJ.m 6 (by decide) (hrd ⟨6, .guard⟩ (by simp) rfl)
                  refine ite_yes ((wanted_of rfl rfl rfl hg).trans rfl) ?_
                  have h79 : bx.tmps.getD 79 undef = .slice (some ⟨b2, off2, none⟩) (p + 1) c2 := hJ.m 7 (by decide) (hrd ⟨7, .data⟩ (by simp) rfl)
                  have f79 := getD_opt h79
                  have h82 : bx.tmps.getD 82 undef = .int .i64 (p : Int) := hJ.m 10 (by decide) (hrd ⟨10, .data⟩ (by simp) rfl)
                  have f82 := getD_opt h82
                  have HK := Lib.hid hK
                  have HJ := Lib.hid hJ
                  clear hK hJ hcl hrd hfr hsz ho
                  go_simp
                  try rw [if_pos (by omega)]
                  exact HK.out _ _ (HJ.out.pure (by decide +kernel) 11 (by decide) (by decide) (by decide) (by first | rfl | rw [hwk] | rw [hwr]))
                · cases (show some _ = some o from ho)
                  have hg : bx.tmps.getD 78 undef = .bool true := hJ.m 6 (by decide) (hrd ⟨6, .guard⟩ (by simp) rfl)
                  refine ite_yes ((wanted_of rfl rfl rfl hg).trans rfl) ?_
                  have h83 : bx.tmps.getD 83 undef = .pointer (some ⟨b2, off2 + p * 2, none⟩) := hJ.m 11 (by decide) (hrd ⟨11, .data⟩ (by simp) rfl)
                  have f83 := getD_opt h83
                  have c0 := (hJ.below.cell (p := ⟨b2, off2 + p * 2, none⟩) hbl2).trans gc0
                  have c1 := (hJ.below.cell (p := ⟨b2, off2 + p * 2 + 1, none⟩) hbl2).trans gc1
                  have d0 := (hJ.below.cell (p := ⟨gq, 0, none⟩) hql).trans q0
                  have d1 := (hJ.below.cell (p := ⟨gq, 1, none⟩) hql).trans q1
                  have HK := Lib.hid hK
                  have HJ := Lib.hid hJ
                  clear hK hJ hcl hrd hfr hsz ho
                  go_simp
                  exact HK.out _ _ (HJ.out.pure (by decide +kernel) 12 (by decide) (by decide) (by decide) (by first | rfl | rw [hwk] | rw [hwr]))
                · cases (show some _ = some o from ho)
                  have hg : bx.tmps.getD 78 undef = .bool true := hJ.m 6 (by decide) (hrd ⟨6, .guard⟩ (by simp) rfl)
                  refine ite_yes ((wanted_of rfl rfl rfl hg).trans rfl) ?_
                  have h8 : bx.tmps.getD 8 undef = .pointer (some ⟨gq, 0, none⟩) := hfr 8 (noDst_of (by kernel_rfl))
                  have f8 := getD_opt h8
                  have c0 := (hJ.below.cell (p := ⟨b2, off2 + p * 2, none⟩) hbl2).trans gc0
                  have c1 := (hJ.below.cell (p := ⟨b2, off2 + p * 2 + 1, none⟩) hbl2).trans gc1
                  have d0 := (hJ.below.cell (p := ⟨gq, 0, none⟩) hql).trans q0
                  have d1 := (hJ.below.cell (p := ⟨gq, 1, none⟩) hql).trans q1
                  have HK := Lib.hid hK
                  have HJ := Lib.hid hJ
                  clear hK hJ hcl hrd hfr hsz ho
                  go_simp
                  exact HK.out _ _ (HJ.out.pure (by decide +kernel) 13 (by decide) (by decide) (by decide) (by first | rfl | rw [hwk] | rw [hwr]))
                · cases (show some _ = some o from ho)
                  have hg : bx.tmps.getD 78 undef = .bool true := hJ.m 6 (by decide) (hrd ⟨6, .guard⟩ (by simp) rfl)
                  refine ite_yes ((wanted_of rfl rfl rfl hg).trans rfl) ?_
                  have h84 : bx.tmps.getD 84 undef = .agg #[.string qa, .string qb] := hJ.m 12 (by decide) (hrd ⟨12, .data⟩ (by simp) rfl)
                  have f84 := getD_opt h84
                  have h85 : bx.tmps.getD 85 undef = .agg #[.string qa, .string qb] := hJ.m 13 (by decide) (hrd ⟨13, .data⟩ (by simp) rfl)
                  have f85 := getD_opt h85
                  have HK := Lib.hid hK
                  have HJ := Lib.hid hJ
                  clear hK hJ hcl hrd hfr hsz ho
                  go_simp
                  exact HK.out _ _ (HJ.out.pure (by decide +kernel) 14 (by decide) (by decide) (by decide) (by first | rfl | rw [hwk] | rw [hwr]))
                · cases (show some _ = some o from ho)
                  refine ite_yes (by rfl) ?_
                  have h78 : bx.tmps.getD 78 undef = .bool true := hJ.m 6 (by decide) (hrd ⟨6, .data⟩ (by simp) rfl)
                  have f78 := getD_opt h78
                  have h86 : bx.tmps.getD 86 undef = .bool true := hJ.m 14 (by decide) (hrd ⟨14, .data⟩ (by simp) rfl)
                  have f86 := getD_opt h86
                  have HK := Lib.hid hK
                  have HJ := Lib.hid hJ
                  clear hK hJ hcl hrd hfr hsz ho
                  go_simp
                  exact HK.out _ _ (HJ.out.pure (by decide +kernel) 15 (by decide) (by decide) (by decide) (by first | rfl | rw [hwk] | rw [hwr]))
                · cases (show some _ = some o from ho)
                  refine ite_yes (by rfl) ?_
                  have h87 : bx.tmps.getD 87 undef = .bool true := hJ.m 15 (by decide) (hrd ⟨15, .data⟩ (by simp) rfl)
                  have f87 := getD_opt h87
                  have HK := Lib.hid hK
                  have HJ := Lib.hid hJ
                  clear hK hJ hcl hrd hfr hsz ho
                  go_simp
                  exact HK.out _ _ (HJ.out.pure (by decide +kernel) 16 (by decide) (by decide) (by decide) (by first | rfl | rw [hwk] | rw [hwr]))
              · intro ff bx wb hall hsz hdf hfr hJ
                have HBW2 := Lib.hid hJ.below
                obtain ⟨tm, df⟩ := bx
                obtain rfl : df = [] := hdf
                have q2 : tm.getD 2 undef = .bool true := hJ.m 16 (by decide) (hall 16 (by decide))
                have q := lit_of tm 88 hsz
                simp only [List.range, List.range.loop, List.map, q2] at q
                have HQ := Lib.hid q
                clear q hsz hfr hJ hall q2
                rw [HQ.out]
                generalize tm.getD 0 undef = x0
                generalize tm.getD 1 undef = x1
                generalize tm.getD 3 undef = x3
                generalize tm.getD 4 undef = x4
                generalize tm.getD 5 undef = x5
                generalize tm.getD 6 undef = x6
                generalize tm.getD 7 undef = x7
                generalize tm.getD 8 undef = x8
                generalize tm.getD 9 undef = x9
                generalize tm.getD 10 undef = x10
                generalize tm.getD 11 undef = x11
                generalize tm.getD 12 undef = x12
                generalize tm.getD 13 undef = x13
                generalize tm.getD 14 undef = x14
                generalize tm.getD 15 undef = x15
                generalize tm.getD 16 undef = x16
                generalize tm.getD 17 undef = x17
                generalize tm.getD 18 undef = x18
                generalize tm.getD 19 undef = x19
                generalize tm.getD 20 undef = x20
                generalize tm.getD 21 undef = x21
                generalize tm.getD 22 undef = x22
                generalize tm.getD 23 undef = x23
                generalize tm.getD 24 undef = x24
                generalize tm.getD 25 undef = x25
                generalize tm.getD 26 undef = x26
                generalize tm.getD 27 undef = x27
                generalize tm.getD 28 undef = x28
                generalize tm.getD 29 undef = x29
                generalize tm.getD 30 undef = x30
                generalize tm.getD 31 undef = x31
                generalize tm.getD 32 undef = x32
                generalize tm.getD 33 undef = x33
                generalize tm.getD 34 undef = x34
                generalize tm.getD 35 undef = x35
                generalize tm.getD 36 undef = x36
                generalize tm.getD 37 undef = x37
                generalize tm.getD 38 undef = x38
                generalize tm.getD 39 undef = x39
                generalize tm.getD 40 undef = x40
                generalize tm.getD 41 undef = x41
                generalize tm.getD 42 undef = x42
                generalize tm.getD 43 undef = x43
                generalize tm.getD 44 undef = x44
                generalize tm.getD 45 undef = x45
                generalize tm.getD 46 undef = x46
                generalize tm.getD 47 undef = x47
                generalize tm.getD 48 undef = x48
                generalize tm.getD 49 undef = x49
                generalize tm.getD 50 undef = x50
                generalize tm.getD 51 undef = x51
                generalize tm.getD 52 undef = x52
                generalize tm.getD 53 undef = x53
                generalize tm.getD 54 undef = x54
                generalize tm.getD 55 undef = x55
                generalize tm.getD 56 undef = x56
                generalize tm.getD 57 undef = x57
                generalize tm.getD 58 undef = x58
                generalize tm.getD 59 undef = x59
                generalize tm.getD 60 undef = x60
                generalize tm.getD 61 undef = x61
                generalize tm.getD 62 undef = x62
                generalize tm.getD 63 undef = x63
                generalize tm.getD 64 undef = x64
                generalize tm.getD 65 undef = x65
                generalize tm.getD 66 undef = x66
                generalize tm.getD 67 undef = x67
                generalize tm.getD 68 undef = x68
                generalize tm.getD 69 undef = x69
                generalize tm.getD 70 undef = x70
                generalize tm.getD 71 undef = x71
                generalize tm.getD 72 undef = x72
                generalize tm.getD 73 undef = x73
                generalize tm.getD 74 undef = x74
                generalize tm.getD 75 undef = x75
                generalize tm.getD 76 undef = x76
                generalize tm.getD 77 undef = x77
                generalize tm.getD 78 undef = x78
                generalize tm.getD 79 undef = x79
                generalize tm.getD 80 undef = x80
                generalize tm.getD 81 undef = x81
                generalize tm.getD 82 undef = x82
                generalize tm.getD 83 undef = x83
                generalize tm.getD 84 undef = x84
                generalize tm.getD 85 undef = x85
                generalize tm.getD 86 undef = x86
                generalize tm.getD 87 undef = x87
                clear HQ
                have HBF := Lib.hid (belB HBZ.out HBZ.out.size (belt HB.out HBW2.out))
                go_wp2_with fail
                go_ret
                exact ⟨rfl, HBF.out⟩
end Go.Proofs.YtpbnbekkmifbpaaDoor
