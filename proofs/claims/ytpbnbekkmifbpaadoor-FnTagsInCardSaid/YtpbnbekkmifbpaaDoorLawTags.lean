/-
  The walk of the law of TagsIn.
-/
import Derived.Test.YtpbnbekkmifbpaaDoorPlTags
import Derived.Test.YtpbnbekkmifbpaaDoorDrawSaid
import Derived.Test.YtpbnbekkmifbpaaDoorWord
namespace Go.Proofs.YtpbnbekkmifbpaaDoor
open Go.ChangeShapes Go.WideShapes Go.ChangeAt Go.RowKit Go.Joins
set_option linter.unusedVariables false

theorem tgZ_list : tgZ.toList = [122, 111, 101] := by rw [Lib.toList_data]; rfl
set_option maxRecDepth 100000 in
set_option maxHeartbeats 16000000 in
theorem walkTagsIn (a : Option Addr) (len cap : Nat) (zs : List Int) (w : World) (h : IsCode w a len cap zs) :
    Calls Tryd.prog 7 #[.slice a len cap] w fun e w' => e = .returned (.bool true) ∧ Below w.heap.size w w' := by
  obtain ⟨hl, hm⟩ := code_len h
  unfold maxLen at hm
  have H := Lib.hid h; clear h
  by_cases hb : (1048576 : Int) < (len : Int)
  · go_enter Tryd.func7, Tryd.ntmps7
    go_wp2
    go_ret
    exact ⟨rfl, Below.refl _ _⟩
  · go_enter Tryd.func7, Tryd.ntmps7
    go_wp2_with fail
    refine (dtg_any _ _ _ _ _ _ H.out (Below.refl _ _)).mono ?_
    rintro e w0 ⟨s, rfl, hs81, hb0⟩
    have HB0 := Lib.hid hb0; clear hb0
    have HI := Lib.hid (fun w => itg_any s w (by omega)); have HSP := Lib.hid (fun w => stg_any s w (by omega))
    have HVAL := Lib.hid (tgB_valid s); have HND := Lib.hid (tgB_nodup s)
    have hxn := tgB_len s
    have HMORE := Lib.hid (fun h => tgB_more (s := s) h)
    generalize tgB s = X at *
    generalize hm : X.length = n at *
    have HXL := Lib.hid hm; clear hm
    have HN : Hid (n ≤ 1048576) := Lib.hid (by omega)
    go_wp2_with fail
    refine (HI.out _).mono ?_
    rintro e x1 ⟨v, rfl, ho, hb⟩
    have HB1 : Hid (Below w0.heap.size w0 x1) := Lib.hid (belt (Below.refl w0.heap.size w0) hb)
    obtain ⟨Ag, cg, rfl, hc1, hc2, _⟩ := own_form ho
    have Rg_1 := Lib.hid ho
    have hbase := (Below.refl w0.heap.size w0).size
    have HBSg : Hid (w0.heap.size ≤ w0.heap.size) := Lib.hid hbase
    clear ho hc1 hc2 hbase hb
    go_wp2_with fail
    refine (HSP.out _).mono ?_
    rintro e x2 ⟨v, rfl, ho, hb⟩
    have HB2 : Hid (Below w0.heap.size w0 x2) := Lib.hid (belt HB1.out hb)
    have Rg_2 := Lib.hid (own_below Rg_1.out hb)
    obtain ⟨As, cs, rfl, hc1, hc2, _⟩ := own_form ho
    have Rs_2 := Lib.hid ho
    have hbase := HB1.out.size
    have HBSs : Hid (w0.heap.size ≤ x1.heap.size) := Lib.hid hbase
    have AP_g_s := Lib.hid (own_apart Rg_1.out ho (Nat.le_refl _))
    clear Rg_1 HB1 ho hc1 hc2 hbase hb
    go_wp2_with fail
    refine (eqT_same _ _ _ _ _ _ _ (rd_own Rg_2.out) (rd_own Rs_2.out) HN.out).mono ?_
    rintro e x3 ⟨rfl, hb⟩
    have HB3 : Hid (Below w0.heap.size w0 x3) := Lib.hid (belt HB2.out hb)
    have Rg_3 := Lib.hid (own_below Rg_2.out hb)
    have Rs_3 := Lib.hid (own_below Rs_2.out hb)
    clear Rg_2 Rs_2 HB2 hb
    clear Rs_3
    have HBW := Lib.hid (belB HB0.out HB0.out.size HB3.out)
    have HRX := Lib.hid (rd_own Rg_3.out)
    clear Rg_3 HB3
    generalize hxx : x3 = w1 at *
    clear hxx
    have hcx := Lib.hid (Below.refl w1.heap.size w1)
    go_wp2_with fail
    go_loopw [5] (fun i wr => ∃ k : Nat, k ≤ n ∧ i = .int .i64 k ∧ Below w1.heap.size w1 wr) (fun i _ => n - (intOf i).toNat)
    case atStart => exact ⟨0, Nat.zero_le _, rfl, Below.refl _ _⟩
    case round =>
      obtain ⟨k, hk, rfl, hb⟩ := hrel
      have HB := Lib.hid hb; clear hb
      by_cases hlt : k < n
      · obtain ⟨b, off, z, eA, hbl, hz, hcell⟩ := (HRX.out.below HB.out).sv hlt
        subst eA
        have HZV := Lib.hid (HVAL.out z (List.mem_of_getElem? hz))
        have HZS : Hid (z.size ≤ maxLen) := Lib.hid (by have := (wvB_size HZV.out).2; simp only [maxLen]; omega)
        have HZ := Lib.hid hz; clear hz
        go_wp2_with fail
        refine (iwv_any _ _ HZS.out).mono ?_
        rw [HZV.out]
        rintro e w' ⟨rfl, rfl⟩
        go_wp2_with fail
        go_loopw [6] (fun i wr => ∃ p : Nat, p ≤ k ∧ i = .int .i64 p ∧ Below w1.heap.size w1 wr) (fun i _ => k - (intOf i).toNat)
        case atStart => exact ⟨0, Nat.zero_le _, rfl, HB.out⟩
        case round =>
          obtain ⟨p, hp, rfl, hb⟩ := hrel
          have HB3 := Lib.hid hb; clear hb
          by_cases hlt2 : p < k
          · obtain ⟨b2, off2, y, eA, hbl2, hy, gcell⟩ := (HRX.out.below HB3.out).sv (k := p) (by omega)
            injection eA with eA; injection eA with e1 e2
            subst e1; subst e2
            obtain ⟨b2, off2, z', eA, _, hz', hcell⟩ := (HRX.out.below HB3.out).sv (k := k) (by omega)
            injection eA with eA; injection eA with e1 e2
            subst e1; subst e2
            rw [HZ.out] at hz'; injection hz' with hz'; subst hz'
            have hne : (y.toList == z.toList) = false := by
              cases e : (y.toList == z.toList)
              · rfl
              · exact absurd (ba_iff.1 e) (nodup_ne HND.out hy HZ.out hlt2)
            obtain ⟨wo, rfl⟩ : ∃ wo : World, wo = wr := ⟨_, rfl⟩
            go_upto_region 15 with (fail)
            refine wp_region_inv' (TabJ 9 (fun j => [38, 39, 40, 41, 42, 43, 44, 45, 46].getD j 0) (fun j v => match j with
              | 0 => v = .slice (some ⟨b, off, none⟩) n cg
              | 1 => v = .int .i64 p
              | 2 => v = .pointer (some ⟨b, off + p, none⟩)
              | 3 => v = .string y
              | 4 => v = .slice (some ⟨b, off, none⟩) n cg
              | 5 => v = .int .i64 k
              | 6 => v = .pointer (some ⟨b, off + k, none⟩)
              | 7 => v = .string z
              | 8 => v = .bool false
              | _ => True) 16 (undef) 16 17 0 #[] #[] wo) (by kernel_rfl) (regOkI_of (by kernel_rfl)) (TabJ.start (by intro h; exact absurd h (by decide))) ?_ ?_
            · intro i o ff bx wb ho hf hrd hcl hsz hfr hJ K hK
              have hi := (Array.getElem?_eq_some_iff.1 ho).1
              simp only [List.size_toArray, List.length_cons, List.length_nil] at hi
              have hcases : i = 0 ∨ i = 1 ∨ i = 2 ∨ i = 3 ∨ i = 4 ∨ i = 5 ∨ i = 6 ∨ i = 7 ∨ i = 8 := by omega
              have hB := hJ.below.size
              rcases hcases with rfl | rfl | rfl | rfl | rfl | rfl | rfl | rfl | rfl
              · cases (show some _ = some o from ho)
                refine ite_yes (by rfl) ?_
                have h4 : bx.tmps.getD 4 undef = .slice (some ⟨b, off, none⟩) n cg := hfr 4 (noDst_of (by kernel_rfl))
                have f4 := getD_opt h4
                have HK := Lib.hid hK
                have HJ := Lib.hid hJ
                clear hK hJ hcl hrd hfr hsz ho
                go_simp
                exact HK.out _ _ (HJ.out.pure (by decide +kernel) 0 (by decide) (by decide) (by decide) (by first | rfl | rw [hwk]))
              · cases (show some _ = some o from ho)
                refine ite_yes (by rfl) ?_
                have h6 : bx.tmps.getD 6 undef = .int .i64 p := hfr 6 (noDst_of (by kernel_rfl))
                have f6 := getD_opt h6
                have HK := Lib.hid hK
                have HJ := Lib.hid hJ
                clear hK hJ hcl hrd hfr hsz ho
                go_simp
                exact HK.out _ _ (HJ.out.pure (by decide +kernel) 1 (by decide) (by decide) (by decide) (by first | rfl | rw [hwk]))
              · cases (show some _ = some o from ho)
                refine ite_yes (by rfl) ?_
                have h38 : bx.tmps.getD 38 undef = .slice (some ⟨b, off, none⟩) n cg := hJ.m 0 (by decide) (hrd ⟨0, .data⟩ (by simp) rfl)
                have f38 := getD_opt h38
                have h39 : bx.tmps.getD 39 undef = .int .i64 p := hJ.m 1 (by decide) (hrd ⟨1, .data⟩ (by simp) rfl)
                have f39 := getD_opt h39
                have HK := Lib.hid hK
                have HJ := Lib.hid hJ
                clear hK hJ hcl hrd hfr hsz ho
                go_simp
                try rw [if_pos (by omega)]
                exact HK.out _ _ (HJ.out.pure (by decide +kernel) 2 (by decide) (by decide) (by decide) (by first | rfl | rw [hwk]))
              · cases (show some _ = some o from ho)
                refine ite_yes (by rfl) ?_
                have h40 : bx.tmps.getD 40 undef = .pointer (some ⟨b, off + p, none⟩) := hJ.m 2 (by decide) (hrd ⟨2, .data⟩ (by simp) rfl)
                have f40 := getD_opt h40
                have c0 := (hJ.below.cell (p := ⟨b, off + p, none⟩) hbl2).trans gcell
                have c1 := (hJ.below.cell (p := ⟨b, off + k, none⟩) hbl2).trans hcell
                have HK := Lib.hid hK
                have HJ := Lib.hid hJ
                clear hK hJ hcl hrd hfr hsz ho
                go_simp
                exact HK.out _ _ (HJ.out.pure (by decide +kernel) 3 (by decide) (by decide) (by decide) (by first | rfl | rw [hwk]))
              · cases (show some _ = some o from ho)
                refine ite_yes (by rfl) ?_
                have h4 : bx.tmps.getD 4 undef = .slice (some ⟨b, off, none⟩) n cg := hfr 4 (noDst_of (by kernel_rfl))
                have f4 := getD_opt h4
                have HK := Lib.hid hK
                have HJ := Lib.hid hJ
                clear hK hJ hcl hrd hfr hsz ho
                go_simp
                exact HK.out _ _ (HJ.out.pure (by decide +kernel) 4 (by decide) (by decide) (by decide) (by first | rfl | rw [hwk]))
              · cases (show some _ = some o from ho)
                refine ite_yes (by rfl) ?_
                have h5 : bx.tmps.getD 5 undef = .int .i64 k := hfr 5 (noDst_of (by kernel_rfl))
                have f5 := getD_opt h5
                have HK := Lib.hid hK
                have HJ := Lib.hid hJ
                clear hK hJ hcl hrd hfr hsz ho
                go_simp
                exact HK.out _ _ (HJ.out.pure (by decide +kernel) 5 (by decide) (by decide) (by decide) (by first | rfl | rw [hwk]))
              · cases (show some _ = some o from ho)
                refine ite_yes (by rfl) ?_
                have h42 : bx.tmps.getD 42 undef = .slice (some ⟨b, off, none⟩) n cg := hJ.m 4 (by decide) (hrd ⟨4, .data⟩ (by simp) rfl)
                have f42 := getD_opt h42
                have h43 : bx.tmps.getD 43 undef = .int .i64 k := hJ.m 5 (by decide) (hrd ⟨5, .data⟩ (by simp) rfl)
                have f43 := getD_opt h43
                have HK := Lib.hid hK
                have HJ := Lib.hid hJ
                clear hK hJ hcl hrd hfr hsz ho
                go_simp
                try rw [if_pos (by omega)]
                exact HK.out _ _ (HJ.out.pure (by decide +kernel) 6 (by decide) (by decide) (by decide) (by first | rfl | rw [hwk]))
              · cases (show some _ = some o from ho)
                refine ite_yes (by rfl) ?_
                have h44 : bx.tmps.getD 44 undef = .pointer (some ⟨b, off + k, none⟩) := hJ.m 6 (by decide) (hrd ⟨6, .data⟩ (by simp) rfl)
                have f44 := getD_opt h44
                have c0 := (hJ.below.cell (p := ⟨b, off + p, none⟩) hbl2).trans gcell
                have c1 := (hJ.below.cell (p := ⟨b, off + k, none⟩) hbl2).trans hcell
                have HK := Lib.hid hK
                have HJ := Lib.hid hJ
                clear hK hJ hcl hrd hfr hsz ho
                go_simp
                exact HK.out _ _ (HJ.out.pure (by decide +kernel) 7 (by decide) (by decide) (by decide) (by first | rfl | rw [hwk]))
              · cases (show some _ = some o from ho)
                refine ite_yes (by rfl) ?_
                have h41 : bx.tmps.getD 41 undef = .string y := hJ.m 3 (by decide) (hrd ⟨3, .data⟩ (by simp) rfl)
                have f41 := getD_opt h41
                have h45 : bx.tmps.getD 45 undef = .string z := hJ.m 7 (by decide) (hrd ⟨7, .data⟩ (by simp) rfl)
                have f45 := getD_opt h45
                have HK := Lib.hid hK
                have HJ := Lib.hid hJ
                clear hK hJ hcl hrd hfr hsz ho
                go_simp
                exact HK.out _ _ (HJ.out.pure (by decide +kernel) 8 (by decide) (by decide) (by decide) (by first | rfl | rw [hwk]))
            · intro ff bx wb hall hsz hdf hfr hJ
              have HBW2 := Lib.hid hJ.below
              obtain ⟨tm, df⟩ := bx
              obtain rfl : df = [] := hdf
              have q0 : tm.getD 0 undef = .slice a len cap := hfr 0 (noDst_of (by kernel_rfl))
              have q1 : tm.getD 1 undef = undef := hfr 1 (noDst_of (by kernel_rfl))
              have q2 : tm.getD 2 undef = u2 := hfr 2 (noDst_of (by kernel_rfl))
              have q3 : tm.getD 3 undef = .string s := hfr 3 (noDst_of (by kernel_rfl))
              have q4 : tm.getD 4 undef = .slice (some ⟨b, off, none⟩) n cg := hfr 4 (noDst_of (by kernel_rfl))
              have q5 : tm.getD 5 undef = .int .i64 k := hfr 5 (noDst_of (by kernel_rfl))
              have q6 : tm.getD 6 undef = .int .i64 p := hfr 6 (noDst_of (by kernel_rfl))
              have q7 : tm.getD 7 undef = undef := hfr 7 (noDst_of (by kernel_rfl))
              have q8 : tm.getD 8 undef = undef := hfr 8 (noDst_of (by kernel_rfl))
              have q9 : tm.getD 9 undef = .slice a len cap := hfr 9 (noDst_of (by kernel_rfl))
              have q10 : tm.getD 10 undef = .int .i64 len := hfr 10 (noDst_of (by kernel_rfl))
              have q11 : tm.getD 11 undef = .bool false := hfr 11 (noDst_of (by kernel_rfl))
              have q12 : tm.getD 12 undef = .slice a len cap := hfr 12 (noDst_of (by kernel_rfl))
              have q13 : tm.getD 13 undef = .string s := hfr 13 (noDst_of (by kernel_rfl))
              have q14 : tm.getD 14 undef = .string s := hfr 14 (noDst_of (by kernel_rfl))
              have q15 : tm.getD 15 undef = .slice (some ⟨b, off, none⟩) n cg := hfr 15 (noDst_of (by kernel_rfl))
              have q16 : tm.getD 16 undef = .slice (some ⟨b, off, none⟩) n cg := hfr 16 (noDst_of (by kernel_rfl))
              have q17 : tm.getD 17 undef = .string s := hfr 17 (noDst_of (by kernel_rfl))
              have q18 : tm.getD 18 undef = .slice As n cs := hfr 18 (noDst_of (by kernel_rfl))
              have q19 : tm.getD 19 undef = .bool true := hfr 19 (noDst_of (by kernel_rfl))
              have q20 : tm.getD 20 undef = .bool false := hfr 20 (noDst_of (by kernel_rfl))
              have q21 : tm.getD 21 undef = .int .i64 k := hfr 21 (noDst_of (by kernel_rfl))
              have q22 : tm.getD 22 undef = .slice (some ⟨b, off, none⟩) n cg := hfr 22 (noDst_of (by kernel_rfl))
              have q23 : tm.getD 23 undef = .int .i64 n := hfr 23 (noDst_of (by kernel_rfl))
              have q24 : tm.getD 24 undef = .bool true := hfr 24 (noDst_of (by kernel_rfl))
              have q25 : tm.getD 25 undef = u25 := hfr 25 (noDst_of (by kernel_rfl))
              have q26 : tm.getD 26 undef = u26 := hfr 26 (noDst_of (by kernel_rfl))
              have q27 : tm.getD 27 undef = .slice (some ⟨b, off, none⟩) n cg := hfr 27 (noDst_of (by kernel_rfl))
              have q28 : tm.getD 28 undef = .int .i64 k := hfr 28 (noDst_of (by kernel_rfl))
              have q29 : tm.getD 29 undef = .pointer (some ⟨b, off + k, none⟩) := hfr 29 (noDst_of (by kernel_rfl))
              have q30 : tm.getD 30 undef = .string z := hfr 30 (noDst_of (by kernel_rfl))
              have q31 : tm.getD 31 undef = .bool true := hfr 31 (noDst_of (by kernel_rfl))
              have q32 : tm.getD 32 undef = .bool false := hfr 32 (noDst_of (by kernel_rfl))
              have q47 : tm.getD 47 undef = undef := hfr 47 (noDst_of (by kernel_rfl))
              have q48 : tm.getD 48 undef = undef := hfr 48 (noDst_of (by kernel_rfl))
              have q49 : tm.getD 49 undef = undef := hfr 49 (noDst_of (by kernel_rfl))
              have q50 : tm.getD 50 undef = undef := hfr 50 (noDst_of (by kernel_rfl))
              have q51 : tm.getD 51 undef = undef := hfr 51 (noDst_of (by kernel_rfl))
              have q52 : tm.getD 52 undef = undef := hfr 52 (noDst_of (by kernel_rfl))
              have q53 : tm.getD 53 undef = undef := hfr 53 (noDst_of (by kernel_rfl))
              have q54 : tm.getD 54 undef = undef := hfr 54 (noDst_of (by kernel_rfl))
              have q55 : tm.getD 55 undef = undef := hfr 55 (noDst_of (by kernel_rfl))
              have q56 : tm.getD 56 undef = undef := hfr 56 (noDst_of (by kernel_rfl))
              have q57 : tm.getD 57 undef = undef := hfr 57 (noDst_of (by kernel_rfl))
              have q58 : tm.getD 58 undef = undef := hfr 58 (noDst_of (by kernel_rfl))
              have q59 : tm.getD 59 undef = undef := hfr 59 (noDst_of (by kernel_rfl))
              have q60 : tm.getD 60 undef = undef := hfr 60 (noDst_of (by kernel_rfl))
              have q61 : tm.getD 61 undef = undef := hfr 61 (noDst_of (by kernel_rfl))
              have q62 : tm.getD 62 undef = undef := hfr 62 (noDst_of (by kernel_rfl))
              have q63 : tm.getD 63 undef = undef := hfr 63 (noDst_of (by kernel_rfl))
              have q64 : tm.getD 64 undef = undef := hfr 64 (noDst_of (by kernel_rfl))
              have q65 : tm.getD 65 undef = undef := hfr 65 (noDst_of (by kernel_rfl))
              have q66 : tm.getD 66 undef = undef := hfr 66 (noDst_of (by kernel_rfl))
              have q67 : tm.getD 67 undef = undef := hfr 67 (noDst_of (by kernel_rfl))
              have q68 : tm.getD 68 undef = undef := hfr 68 (noDst_of (by kernel_rfl))
              have q69 : tm.getD 69 undef = undef := hfr 69 (noDst_of (by kernel_rfl))
              have q70 : tm.getD 70 undef = undef := hfr 70 (noDst_of (by kernel_rfl))
              have q71 : tm.getD 71 undef = undef := hfr 71 (noDst_of (by kernel_rfl))
              have q72 : tm.getD 72 undef = undef := hfr 72 (noDst_of (by kernel_rfl))
              have q73 : tm.getD 73 undef = undef := hfr 73 (noDst_of (by kernel_rfl))
              have q74 : tm.getD 74 undef = undef := hfr 74 (noDst_of (by kernel_rfl))
              have q75 : tm.getD 75 undef = undef := hfr 75 (noDst_of (by kernel_rfl))
              have q76 : tm.getD 76 undef = undef := hfr 76 (noDst_of (by kernel_rfl))
              have q77 : tm.getD 77 undef = undef := hfr 77 (noDst_of (by kernel_rfl))
              have q78 : tm.getD 78 undef = undef := hfr 78 (noDst_of (by kernel_rfl))
              have q79 : tm.getD 79 undef = undef := hfr 79 (noDst_of (by kernel_rfl))
              have q80 : tm.getD 80 undef = undef := hfr 80 (noDst_of (by kernel_rfl))
              have q81 : tm.getD 81 undef = undef := hfr 81 (noDst_of (by kernel_rfl))
              have q82 : tm.getD 82 undef = undef := hfr 82 (noDst_of (by kernel_rfl))
              have q83 : tm.getD 83 undef = undef := hfr 83 (noDst_of (by kernel_rfl))
              have q46 : tm.getD 46 undef = .bool false := hJ.m 8 (by decide) (hall 8 (by decide))
              have q := lit_of tm 84 hsz
              simp only [List.range, List.range.loop, List.map, q0, q1, q2, q3, q4, q5, q6, q7, q8, q9, q10, q11, q12, q13, q14, q15, q16, q17, q18, q19, q20, q21, q22, q23, q24, q25, q26, q27, q28, q29, q30, q31, q32, q47, q48, q49, q50, q51, q52, q53, q54, q55, q56, q57, q58, q59, q60, q61, q62, q63, q64, q65, q66, q67, q68, q69, q70, q71, q72, q73, q74, q75, q76, q77, q78, q79, q80, q81, q82, q83, q46] at q
              have HQ := Lib.hid q
              clear q hsz hfr hJ hall q0 q1 q2 q3 q4 q5 q6 q7 q8 q9 q10 q11 q12 q13 q14 q15 q16 q17 q18 q19 q20 q21 q22 q23 q24 q25 q26 q27 q28 q29 q30 q31 q32 q47 q48 q49 q50 q51 q52 q53 q54 q55 q56 q57 q58 q59 q60 q61 q62 q63 q64 q65 q66 q67 q68 q69 q70 q71 q72 q73 q74 q75 q76 q77 q78 q79 q80 q81 q82 q83 q46
              rw [HQ.out]
              generalize tm.getD 33 undef = x33
              generalize tm.getD 34 undef = x34
              generalize tm.getD 35 undef = x35
              generalize tm.getD 36 undef = x36
              generalize tm.getD 37 undef = x37
              generalize tm.getD 38 undef = x38
              generalize tm.getD 39 undef = x39
              generalize tm.getD 40 undef = x40
              generalize tm.getD 41 undef = x41
              generalize tm.getD 42 undef = x42
              generalize tm.getD 43 undef = x43
              generalize tm.getD 44 undef = x44
              generalize tm.getD 45 undef = x45
              clear HQ
              have hb2 := HBW2.out
              go_wp2
              go_roundw
              case rel => exact ⟨p + 1, by omega, by go_num, belB HB3.out HB3.out.size hb2⟩
              case measure => simp [intOf]; omega
          · obtain rfl : p = k := by omega
            go_wp2
            go_roundw
            case rel => exact ⟨p + 1, by omega, by go_num, HB3.out⟩
            case measure => simp [intOf]; omega
      · obtain rfl : k = n := by omega
        have hsT : (s ++ ⟨#[32, 35, 122, 111, 101, 46]⟩).size ≤ 87 := by
          rw [ByteArray.size_append]
          have h1 : (⟨#[32, 35, 122, 111, 101, 46]⟩ : ByteArray).size = 6 := rfl
          omega
        have HST : Hid ((s ++ ⟨#[32, 35, 122, 111, 101, 46]⟩).size ≤ maxLen) := Lib.hid (by simp only [maxLen]; omega)
        cases htv : tvB (s ++ ⟨#[32, 35, 122, 111, 101, 46]⟩)
        · go_wp2_with fail
          refine (itv_any _ _ HST.out).mono ?_
          rw [htv]
          rintro e w' ⟨rfl, rfl⟩
          go_wp2_with fail
          refine (alive_any _).mono ?_
          rintro e w' ⟨rfl, rfl⟩
          go_wp2_with fail
          go_ret
          exact ⟨rfl, belB HBW.out HBW.out.size HB.out⟩
        · have HM := Lib.hid (HMORE.out htv)
          have HTV := Lib.hid htv; clear htv
          have HI2 := Lib.hid (fun w => itg_any (s ++ ⟨#[32, 35, 122, 111, 101, 46]⟩) w (by omega))
          generalize tgB (s ++ ⟨#[32, 35, 122, 111, 101, 46]⟩) = M at *
          go_wp2_with fail
          refine (itv_any _ _ HST.out).mono ?_
          rw [HTV.out]
          rintro e w' ⟨rfl, rfl⟩
          go_wp2_with fail
          refine (HI2.out _).mono ?_
          rintro e w2 ⟨v, rfl, ho, hb2⟩
          have HRX2 := Lib.hid ((HRX.out.below HB.out).below hb2)
          have HBZ := Lib.hid (belB (belB HBW.out HBW.out.size HB.out) (Nat.le_trans HBW.out.size HB.out.size) hb2)
          obtain ⟨A2, c2, rfl, hnc2, hcm2, _⟩ := own_form ho
          have HRM := Lib.hid (rd_own ho)
          clear ho hb2 HB HRX HI2
          go_wp2_with fail
          go_loopw [8] (fun i wr => ∃ p : Nat, p ≤ k ∧ i = .int .i64 p ∧ (∀ t y, t < p → X[t]? = some y → y ≠ tgZ) ∧ Below w2.heap.size w2 wr) (fun i _ => k - (intOf i).toNat)
          case atStart => exact ⟨0, Nat.zero_le _, rfl, fun t y h => by omega, Below.refl _ _⟩
          case round =>
            obtain ⟨p, hp, rfl, hno, hb⟩ := hrel
            have HB := Lib.hid hb; have HNO := Lib.hid hno; clear hb hno
            by_cases hlt : p < k
            · obtain ⟨b, off, z, eA, hbl, hz, hcell⟩ := (HRX2.out.below HB.out).sv hlt
              subst eA
              by_cases hzz : z = tgZ
              · have hin : inS X tgZ = true := inS_iff.2 (by rw [← hzz]; exact List.mem_of_getElem? hz)
                have HE : Hid (M = X) := Lib.hid (by rw [HM.out, if_pos hin])
                have HML : Hid (M.length = k) := Lib.hid (by rw [HE.out, HXL.out])
                rw [HML.out, HE.out] at HRM
                have heq : (z.toList == tgZ.toList) = true := ba_iff.2 hzz
                rw [tgZ_list] at heq
                clear hz hzz
                rw [HML.out]
                go_wp2_with fail
                refine (eqT_same _ _ _ _ _ X _ (HRM.out.below HB.out) (HRX2.out.below HB.out) HN.out).mono ?_
                rintro e w3 ⟨rfl, hb3⟩
                have HB3 := Lib.hid (belB HBZ.out HBZ.out.size (belt HB.out hb3))
                clear hb3
                go_wp2_with fail
                go_ret
                exact ⟨rfl, HB3.out⟩
              · have hne : (z.toList == tgZ.toList) = false := by
                  cases e : (z.toList == tgZ.toList)
                  · rfl
                  · exact absurd (ba_iff.1 e) hzz
                rw [tgZ_list] at hne
                have HNO2 : Hid (∀ t y, t < p + 1 → X[t]? = some y → y ≠ tgZ) := Lib.hid (fun t y ht hy => by
                  by_cases e : t = p
                  · subst e; rw [hz] at hy; injection hy with hy; subst hy; exact hzz
                  · exact HNO.out t y (by omega) hy)
                clear hz hzz
                go_wp2
                go_roundw
                case rel => exact ⟨p + 1, by omega, by go_num, HNO2.out, HB.out⟩
                case measure => simp [intOf]; omega
            · obtain rfl : p = k := by omega
              have hin : inS X tgZ = false := by
                cases e : inS X tgZ
                · rfl
                · obtain ⟨t, ht⟩ := List.mem_iff_getElem?.1 (inS_iff.1 e)
                  exact absurd rfl (HNO.out t tgZ (by rw [← HXL.out]; exact get_lt ht) ht)
              have HE : Hid (M = X ++ [tgZ]) := Lib.hid (by rw [HM.out, hin]; rfl)
              have HML : Hid (M.length = p + 1) := Lib.hid (by rw [HE.out, List.length_append, HXL.out]; rfl)
              rw [HML.out] at HRM hnc2
              clear hin
              obtain ⟨b2, off2, y, eA, hbl2, hy, gcell⟩ := (HRM.out.below HB.out).sv (k := p) (by omega)
              subst eA
              obtain rfl : y = tgZ := by
                rw [HE.out, List.getElem?_append_right (by rw [HXL.out]; exact Nat.le_refl _), HXL.out, Nat.sub_self] at hy
                injection hy with hy; exact hy.symm
              unfold tgZ at gcell
              clear hy
              rw [HML.out]
              go_wp2_with fail
              go_ret
              exact ⟨rfl, belB HBZ.out HBZ.out.size HB.out⟩
end Go.Proofs.YtpbnbekkmifbpaaDoor
