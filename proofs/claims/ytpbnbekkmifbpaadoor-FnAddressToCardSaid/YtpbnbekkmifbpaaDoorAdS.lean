/-
  The contract of AddressTo of the reference.
-/
import Derived.Test.YtpbnbekkmifbpaaDoorAdI
namespace Go.Proofs.YtpbnbekkmifbpaaDoor
open Go.ChangeShapes Go.WideShapes Go.ChangeAt Go.RowKit Go.Joins
set_option linter.unusedVariables false

def thJ (N : List Ha) (z : Ha) (j : Nat) : Bool := inH (N.take j) z
theorem thJ_0 (N : List Ha) (z : Ha) : thJ N z 0 = false := by simp [thJ, inH]
theorem thJ_end (N : List Ha) (z : Ha) : thJ N z N.length = inH N z := by simp [thJ]
theorem thJ_succ {N : List Ha} {z y : Ha} {j : Nat} (h : N[j]? = some y) : thJ N z (j + 1) = (thJ N z j || haE y z) := by
  unfold thJ inH; rw [take_snoc_get N j y h, List.any_append]
  simp [haE_comm y z]
theorem adF_th (N : List Ha) (t : ByteArray) (z : Ha) : adF N t z = if thJ N z N.length = true then t else (t ++ htB z) ++ ⟨#[32]⟩ := by
  rw [thJ_end, adF, ByteArray.append_assoc]

set_option maxRecDepth 100000 in
set_option maxHeartbeats 16000000 in
theorem sad_any (s : ByteArray) (A : Option Addr) (n c : Nat) (l : List Ha) (w : World) (hs : s.size ≤ 1048576) (h : Rd w 2 A n (has l)) (hnc : n ≤ c) (hc : c ≤ maxLen) (hz : ∀ z ∈ l, z.a.size ≤ maxLen ∧ z.b.size ≤ maxLen) :
    Calls Tryd.prog 21 #[.string s, .slice A n c] w fun e w' => e = .returned (.tuple #[.string (adS s l), .bool (adV s l)]) ∧ Below w.heap.size w w' := by
  have hl := rd_halen h
  have HS : Hid (s.size ≤ maxLen) := Lib.hid (by simp only [maxLen]; omega)
  have H := Lib.hid h; have HNC := Lib.hid hnc; have HC := Lib.hid hc; have HZ := Lib.hid hz; have HL := Lib.hid hl
  clear h hnc hc hz hl
  cases ht : tvB s
  · have HV := Lib.hid (adV_t (f := l) ht); have HX := Lib.hid (adS_no HV.out)
    go_enter Tryd.func21, Tryd.ntmps21
    go_wp2_with fail
    refine (stv_any _ _ HS.out).mono ?_
    rw [ht]
    rintro e w' ⟨rfl, rfl⟩
    go_wp2_with fail
    go_ret2
    exact ⟨by rw [HV.out, HX.out]; rfl, Below.refl _ _⟩
  · have hs80 := tvB_size ht
    cases hf : fvB l
    · have HV := Lib.hid (adV_f (s := s) hf); have HX := Lib.hid (adS_no HV.out)
      go_enter Tryd.func21, Tryd.ntmps21
      go_wp2_with fail
      refine (stv_any _ _ HS.out).mono ?_
      rw [ht]
      rintro e w' ⟨rfl, rfl⟩
      go_wp2_with fail
      refine (sfv_any _ _ _ _ _ H.out HNC.out HC.out HZ.out).mono ?_
      rw [hf]
      rintro e w1 ⟨rfl, hb1⟩
      have HB1 := Lib.hid hb1; clear hb1
      go_wp2_with fail
      go_ret2
      exact ⟨by rw [HV.out, HX.out]; rfl, HB1.out⟩
    · have HVX := Lib.hid (adV_x ht hf)
      have hn10 : n ≤ 10 := by rw [← HL.out]; exact (fvB_parts hf).1
      have HADE : Hid (adX s l = adK (mnB s) l n ++ s) := Lib.hid (by rw [← HL.out, adK_end]; rfl)
      have HAN := Lib.hid (fun h => adS_no (s := s) (f := l) h); have HAY := Lib.hid (fun h => adS_yes (s := s) (f := l) h)
      have HF := Lib.hid hf; have HT := Lib.hid ht
      have HIM := Lib.hid (fun w => smn_any s w hs)
      have hmn := mnB_small s
      clear hf ht
      generalize mnB s = N at *
      go_enter Tryd.func21, Tryd.ntmps21
      go_wp2_with fail
      refine (stv_any _ _ HS.out).mono ?_
      rw [HT.out]
      rintro e w' ⟨rfl, rfl⟩
      go_wp2_with fail
      refine (sfv_any _ _ _ _ _ H.out HNC.out HC.out HZ.out).mono ?_
      rw [HF.out]
      rintro e w1 ⟨rfl, hb1⟩
      have HB1 := Lib.hid hb1; clear hb1
      go_wp2_with fail
      refine (HIM.out _).mono ?_
      rintro e w2 ⟨v, rfl, ho2, hb2⟩
      obtain ⟨A2, c2, rfl, hnc2, hcm2, hrd2⟩ := own_form ho2
      have HRN := Lib.hid hrd2
      have HB2 := Lib.hid (belt HB1.out hb2)
      have H2 := Lib.hid (H.out.below HB2.out)
      clear ho2 hb2 hnc2 hcm2 hrd2 HIM
      have HTH0 := Lib.hid (adF_th N)
      generalize N.length = m at *
      go_wp2_with fail
      go_loopw [7, 8] (fun t i wr => ∃ k : Nat, k ≤ n ∧ i = .int .i64 k ∧ t = .string (adK N l k) ∧ Below w2.heap.size w2 wr) (fun _ i _ => n - (intOf i).toNat)
      case atStart => exact ⟨0, Nat.zero_le _, rfl, by rw [adK_0], Below.refl _ _⟩
      case round =>
        obtain ⟨k, hk, rfl, rfl, hb⟩ := hrel
        have HB := Lib.hid hb; clear hb
        have hks := adK_size N l k
        by_cases hlt : k < n
        · obtain ⟨b, off, z, rfl, hbl, hz, hc0, hc1⟩ := (H2.out.below HB.out).ha hlt
          have HZS := Lib.hid (HZ.out z (List.mem_of_getElem? hz))
          have HK1 : Hid (adK N l (k + 1) = if thJ N z m = true then adK N l k else (adK N l k ++ htB z) ++ ⟨#[32]⟩) := Lib.hid ((adK_succ (N := N) hz).trans (HTH0.out _ _))
          have hth := htB_size z
          have HZG := Lib.hid hz
          clear hz
          generalize hT : adK N l k = T at *
          clear hT
          obtain ⟨za, zb⟩ := z
          go_wp2_with fail
          go_loopw [9, 10] (fun f j wr => ∃ i : Nat, i ≤ m ∧ j = .int .i64 i ∧ f = .bool (thJ N ⟨za, zb⟩ i) ∧ Below w2.heap.size w2 wr) (fun _ j _ => m - (intOf j).toNat)
          case atStart => exact ⟨0, Nat.zero_le _, rfl, by rw [thJ_0], HB.out⟩
          case round =>
            obtain ⟨i, hi, rfl, rfl, hb⟩ := hrel
            have HB3 := Lib.hid hb; clear hb
            obtain ⟨b', off', z', eB, hbl, hz', hc0, hc1⟩ := (H2.out.below HB3.out).ha hlt
            injection eB with eB; injection eB with e1 e2
            subst e1; subst e2
            rw [HZG.out] at hz'; injection hz' with hz'; subst hz'
            by_cases hlt2 : i < m
            · obtain ⟨g2, off2, y, eA, hbl2, hy, gc0, gc1⟩ := (HRN.out.below HB3.out).ha hlt2
              subst eA
              have HOS := Lib.hid (thJ_succ (z := ⟨za, zb⟩) hy)
              clear hy
              obtain ⟨wo, rfl⟩ : ∃ wo : World, wo = wr := ⟨_, rfl⟩
              cases hok : thJ N ⟨za, zb⟩ i
              · rw [hok] at HOS
                have HO9 := Lib.hid (HOS.out.trans (Bool.false_or _))
                clear HOS
                go_upto_region 12 with (fail)
                refine wp_region_inv' (TabJ 13 (fun j => [33, 34, 35, 36, 37, 38, 39, 40, 41, 42, 43, 44, 9].getD j 0) (fun j v => match j with
                  | 0 => v = .bool false
                  | 1 => v = .bool false
                  | 2 => v = .slice (some ⟨g2, off2, none⟩) m c2
                  | 3 => v = .int .i64 i
                  | 4 => v = .pointer (some ⟨g2, off2 + i * 2, none⟩)
                  | 5 => v = .agg #[.string y.a, .string y.b]
                  | 6 => v = .slice (some ⟨b, off, none⟩) n c
                  | 7 => v = .int .i64 k
                  | 8 => v = .pointer (some ⟨b, off + k * 2, none⟩)
                  | 9 => v = .agg #[.string za, .string zb]
                  | 10 => v = .bool (haE y ⟨za, zb⟩)
                  | 11 => v = .bool (haE y ⟨za, zb⟩)
                  | 12 => v = .bool (haE y ⟨za, zb⟩)
                  | _ => True) 12 (.bool false) 20 21 0 #[] #[] wo) (by kernel_rfl) (regOkI_of (by kernel_rfl)) (TabJ.start (by intro h; rfl)) ?_ ?_
                · intro i o ff bx wb ho hf hrd hcl hsz hfr hJ K hK
                  have hi := (Array.getElem?_eq_some_iff.1 ho).1
                  simp only [List.size_toArray, List.length_cons, List.length_nil] at hi
                  have hcases : i = 0 ∨ i = 1 ∨ i = 2 ∨ i = 3 ∨ i = 4 ∨ i = 5 ∨ i = 6 ∨ i = 7 ∨ i = 8 ∨ i = 9 ∨ i = 10 ∨ i = 11 ∨ i = 12 := by omega
                  have hB := hJ.below.size
                  rcases hcases with rfl | rfl | rfl | rfl | rfl | rfl | rfl | rfl | rfl | rfl | rfl | rfl | rfl
                  · cases (show some _ = some o from ho)
                    refine ite_yes (by rfl) ?_
                    have hjw : ff 12 = false := by
                      cases e : ff 12
                      · rfl
                      · exfalso
                        have e11 := hcl 12 _ ⟨11, .data⟩ rfl e (by simp) rfl
                        have e1 := hcl 11 _ ⟨1, .data⟩ rfl e11 (by simp) rfl
                        have e0 := hcl 1 _ ⟨0, .data⟩ rfl e1 (by simp) rfl
                        rw [show ff 0 = true from e0] at hf; cases hf
                    have h9 : bx.tmps.getD 9 undef = .bool false := hJ.u (by decide) hjw
                    have f9 := getD_opt h9
                    have HK := Lib.hid hK
                    have HJ := Lib.hid hJ
                    clear hK hJ hcl hrd hfr hsz ho
                    go_simp
                    exact HK.out _ _ (HJ.out.pure (by decide +kernel) 0 (by decide) (by decide) (by decide) (by first | rfl | rw [hwk]))
                  · cases (show some _ = some o from ho)
                    refine ite_yes (by rfl) ?_
                    have h33 : bx.tmps.getD 33 undef = .bool false := hJ.m 0 (by decide) (hrd ⟨0, .data⟩ (by simp) rfl)
                    have f33 := getD_opt h33
                    have HK := Lib.hid hK
                    have HJ := Lib.hid hJ
                    clear hK hJ hcl hrd hfr hsz ho
                    go_simp
                    exact HK.out _ _ (HJ.out.pure (by decide +kernel) 1 (by decide) (by decide) (by decide) (by first | rfl | rw [hwk]))
                  · cases (show some _ = some o from ho)
                    have hg : bx.tmps.getD 34 undef = .bool false := hJ.m 1 (by decide) (hrd ⟨1, .guard⟩ (by simp) rfl)
                    refine ite_yes ((wanted_of rfl rfl rfl hg).trans rfl) ?_
                    have h6 : bx.tmps.getD 6 undef = .slice (some ⟨g2, off2, none⟩) m c2 := hfr 6 (noDst_of (by kernel_rfl))
                    have f6 := getD_opt h6
                    have HK := Lib.hid hK
                    have HJ := Lib.hid hJ
                    clear hK hJ hcl hrd hfr hsz ho
                    go_simp
                    exact HK.out _ _ (HJ.out.pure (by decide +kernel) 2 (by decide) (by decide) (by decide) (by first | rfl | rw [hwk]))
                  · cases (show some _ = some o from ho)
                    have hg : bx.tmps.getD 34 undef = .bool false := hJ.m 1 (by decide) (hrd ⟨1, .guard⟩ (by simp) rfl)
                    refine ite_yes ((wanted_of rfl rfl rfl hg).trans rfl) ?_
                    have h10 : bx.tmps.getD 10 undef = .int .i64 i := hfr 10 (noDst_of (by kernel_rfl))
                    have f10 := getD_opt h10
                    have HK := Lib.hid hK
                    have HJ := Lib.hid hJ
                    clear hK hJ hcl hrd hfr hsz ho
                    go_simp
                    exact HK.out _ _ (HJ.out.pure (by decide +kernel) 3 (by decide) (by decide) (by decide) (by first | rfl | rw [hwk]))
                  · cases (show some _ = some o from ho)
                    have hg : bx.tmps.getD 34 undef = .bool false := hJ.m 1 (by decide) (hrd ⟨1, .guard⟩ (by simp) rfl)
                    refine ite_yes ((wanted_of rfl rfl rfl hg).trans rfl) ?_
                    have h35 : bx.tmps.getD 35 undef = .slice (some ⟨g2, off2, none⟩) m c2 := hJ.m 2 (by decide) (hrd ⟨2, .data⟩ (by simp) rfl)
                    have f35 := getD_opt h35
                    have h36 : bx.tmps.getD 36 undef = .int .i64 i := hJ.m 3 (by decide) (hrd ⟨3, .data⟩ (by simp) rfl)
                    have f36 := getD_opt h36
                    have HK := Lib.hid hK
                    have HJ := Lib.hid hJ
                    clear hK hJ hcl hrd hfr hsz ho
                    go_simp
                    try rw [if_pos (by omega)]
                    exact HK.out _ _ (HJ.out.pure (by decide +kernel) 4 (by decide) (by decide) (by decide) (by first | rfl | rw [hwk]))
                  · cases (show some _ = some o from ho)
                    have hg : bx.tmps.getD 34 undef = .bool false := hJ.m 1 (by decide) (hrd ⟨1, .guard⟩ (by simp) rfl)
                    refine ite_yes ((wanted_of rfl rfl rfl hg).trans rfl) ?_
                    have h37 : bx.tmps.getD 37 undef = .pointer (some ⟨g2, off2 + i * 2, none⟩) := hJ.m 4 (by decide) (hrd ⟨4, .data⟩ (by simp) rfl)
                    have f37 := getD_opt h37
                    have c0 := (hJ.below.cell (p := ⟨g2, off2 + i * 2, none⟩) hbl2).trans gc0
                    have c1 := (hJ.below.cell (p := ⟨g2, off2 + i * 2 + 1, none⟩) hbl2).trans gc1
                    have d0' := (hJ.below.cell (p := ⟨b, off + k * 2, none⟩) hbl).trans hc0
                    have d1' := (hJ.below.cell (p := ⟨b, off + k * 2 + 1, none⟩) hbl).trans hc1
                    have HK := Lib.hid hK
                    have HJ := Lib.hid hJ
                    clear hK hJ hcl hrd hfr hsz ho
                    go_simp
                    exact HK.out _ _ (HJ.out.pure (by decide +kernel) 5 (by decide) (by decide) (by decide) (by first | rfl | rw [hwk]))
                  · cases (show some _ = some o from ho)
                    have hg : bx.tmps.getD 34 undef = .bool false := hJ.m 1 (by decide) (hrd ⟨1, .guard⟩ (by simp) rfl)
                    refine ite_yes ((wanted_of rfl rfl rfl hg).trans rfl) ?_
                    have h1 : bx.tmps.getD 1 undef = .slice (some ⟨b, off, none⟩) n c := hfr 1 (noDst_of (by kernel_rfl))
                    have f1 := getD_opt h1
                    have HK := Lib.hid hK
                    have HJ := Lib.hid hJ
                    clear hK hJ hcl hrd hfr hsz ho
                    go_simp
                    exact HK.out _ _ (HJ.out.pure (by decide +kernel) 6 (by decide) (by decide) (by decide) (by first | rfl | rw [hwk]))
                  · cases (show some _ = some o from ho)
                    have hg : bx.tmps.getD 34 undef = .bool false := hJ.m 1 (by decide) (hrd ⟨1, .guard⟩ (by simp) rfl)
                    refine ite_yes ((wanted_of rfl rfl rfl hg).trans rfl) ?_
                    have h8 : bx.tmps.getD 8 undef = .int .i64 k := hfr 8 (noDst_of (by kernel_rfl))
                    have f8 := getD_opt h8
                    have HK := Lib.hid hK
                    have HJ := Lib.hid hJ
                    clear hK hJ hcl hrd hfr hsz ho
                    go_simp
                    exact HK.out _ _ (HJ.out.pure (by decide +kernel) 7 (by decide) (by decide) (by decide) (by first | rfl | rw [hwk]))
                  · cases (show some _ = some o from ho)
                    have hg : bx.tmps.getD 34 undef = .bool false := hJ.m 1 (by decide) (hrd ⟨1, .guard⟩ (by simp) rfl)
                    refine ite_yes ((wanted_of rfl rfl rfl hg).trans rfl) ?_
                    have h39 : bx.tmps.getD 39 undef = .slice (some ⟨b, off, none⟩) n c := hJ.m 6 (by decide) (hrd ⟨6, .data⟩ (by simp) rfl)
                    have f39 := getD_opt h39
                    have h40 : bx.tmps.getD 40 undef = .int .i64 k := hJ.m 7 (by decide) (hrd ⟨7, .data⟩ (by simp) rfl)
                    have f40 := getD_opt h40
                    have HK := Lib.hid hK
                    have HJ := Lib.hid hJ
                    clear hK hJ hcl hrd hfr hsz ho
                    go_simp
                    try rw [if_pos (by omega)]
                    exact HK.out _ _ (HJ.out.pure (by decide +kernel) 8 (by decide) (by decide) (by decide) (by first | rfl | rw [hwk]))
                  · cases (show some _ = some o from ho)
                    have hg : bx.tmps.getD 34 undef = .bool false := hJ.m 1 (by decide) (hrd ⟨1, .guard⟩ (by simp) rfl)
                    refine ite_yes ((wanted_of rfl rfl rfl hg).trans rfl) ?_
                    have h41 : bx.tmps.getD 41 undef = .pointer (some ⟨b, off + k * 2, none⟩) := hJ.m 8 (by decide) (hrd ⟨8, .data⟩ (by simp) rfl)
                    have f41 := getD_opt h41
                    have c0 := (hJ.below.cell (p := ⟨g2, off2 + i * 2, none⟩) hbl2).trans gc0
                    have c1 := (hJ.below.cell (p := ⟨g2, off2 + i * 2 + 1, none⟩) hbl2).trans gc1
                    have d0' := (hJ.below.cell (p := ⟨b, off + k * 2, none⟩) hbl).trans hc0
                    have d1' := (hJ.below.cell (p := ⟨b, off + k * 2 + 1, none⟩) hbl).trans hc1
                    have HK := Lib.hid hK
                    have HJ := Lib.hid hJ
                    clear hK hJ hcl hrd hfr hsz ho
                    go_simp
                    exact HK.out _ _ (HJ.out.pure (by decide +kernel) 9 (by decide) (by decide) (by decide) (by first | rfl | rw [hwk]))
                  · cases (show some _ = some o from ho)
                    have hg : bx.tmps.getD 34 undef = .bool false := hJ.m 1 (by decide) (hrd ⟨1, .guard⟩ (by simp) rfl)
                    refine ite_yes ((wanted_of rfl rfl rfl hg).trans rfl) ?_
                    have h38 : bx.tmps.getD 38 undef = .agg #[.string y.a, .string y.b] := hJ.m 5 (by decide) (hrd ⟨5, .data⟩ (by simp) rfl)
                    have f38 := getD_opt h38
                    have h42 : bx.tmps.getD 42 undef = .agg #[.string za, .string zb] := hJ.m 9 (by decide) (hrd ⟨9, .data⟩ (by simp) rfl)
                    have f42 := getD_opt h42
                    have HK := Lib.hid hK
                    have HJ := Lib.hid hJ
                    clear hK hJ hcl hrd hfr hsz ho
                    by_cases h1 : y.a.toList = za.toList
                    · by_cases h2 : y.b.toList = zb.toList
                      · have hE : haE y ⟨za, zb⟩ = true := by simp [haE, h1, h2]
                        go_simp
                        try rw [if_pos h1, if_pos h2]
                        exact HK.out _ _ (HJ.out.pure (by decide +kernel) 10 (by decide) (by decide) (by decide) (by rw [hE]; rfl))
                      · have hE : haE y ⟨za, zb⟩ = false := by simp [haE, h2]
                        go_simp
                        try rw [if_pos h1, if_neg h2]
                        exact HK.out _ _ (HJ.out.pure (by decide +kernel) 10 (by decide) (by decide) (by decide) (by rw [hE]; rfl))
                    · have hE : haE y ⟨za, zb⟩ = false := by simp [haE, h1]
                      go_simp
                      try rw [if_neg h1]
                      exact HK.out _ _ (HJ.out.pure (by decide +kernel) 10 (by decide) (by decide) (by decide) (by rw [hE]; rfl))
                  · cases (show some _ = some o from ho)
                    refine ite_yes (by rfl) ?_
                    have h34 : bx.tmps.getD 34 undef = .bool false := hJ.m 1 (by decide) (hrd ⟨1, .data⟩ (by simp) rfl)
                    have f34 := getD_opt h34
                    have h43 : bx.tmps.getD 43 undef = .bool (haE y ⟨za, zb⟩) := hJ.m 10 (by decide) (hrd ⟨10, .data⟩ (by simp) rfl)
                    have f43 := getD_opt h43
                    have HK := Lib.hid hK
                    have HJ := Lib.hid hJ
                    clear hK hJ hcl hrd hfr hsz ho
                    go_simp
                    exact HK.out _ _ (HJ.out.pure (by decide +kernel) 11 (by decide) (by decide) (by decide) (by first | rfl | rw [hwk]))
                  · cases (show some _ = some o from ho)
                    refine ite_yes (by rfl) ?_
                    have h44 : bx.tmps.getD 44 undef = .bool (haE y ⟨za, zb⟩) := hJ.m 11 (by decide) (hrd ⟨11, .data⟩ (by simp) rfl)
                    have f44 := getD_opt h44
                    have HK := Lib.hid hK
                    have HJ := Lib.hid hJ
                    clear hK hJ hcl hrd hfr hsz ho
                    go_simp
                    exact HK.out _ _ (HJ.out.pure (by decide +kernel) 12 (by decide) (by decide) (by decide) (by first | rfl | rw [hwk]))
                · intro ff bx wb hall hsz hdf hfr hJ
                  have HBW := Lib.hid hJ.below
                  obtain ⟨tm, df⟩ := bx
                  obtain rfl : df = [] := hdf
                  have q0 : tm.getD 0 undef = .string s := hfr 0 (noDst_of (by kernel_rfl))
                  have q1 : tm.getD 1 undef = .slice (some ⟨b, off, none⟩) n c := hfr 1 (noDst_of (by kernel_rfl))
                  have q2 : tm.getD 2 undef = undef := hfr 2 (noDst_of (by kernel_rfl))
                  have q3 : tm.getD 3 undef = undef := hfr 3 (noDst_of (by kernel_rfl))
                  have q4 : tm.getD 4 undef = .string ⟨#[]⟩ := hfr 4 (noDst_of (by kernel_rfl))
                  have q5 : tm.getD 5 undef = .bool false := hfr 5 (noDst_of (by kernel_rfl))
                  have q6 : tm.getD 6 undef = .slice (some ⟨g2, off2, none⟩) m c2 := hfr 6 (noDst_of (by kernel_rfl))
                  have q7 : tm.getD 7 undef = .string T := hfr 7 (noDst_of (by kernel_rfl))
                  have q8 : tm.getD 8 undef = .int .i64 k := hfr 8 (noDst_of (by kernel_rfl))
                  have q10 : tm.getD 10 undef = .int .i64 i := hfr 10 (noDst_of (by kernel_rfl))
                  have q11 : tm.getD 11 undef = .string s := hfr 11 (noDst_of (by kernel_rfl))
                  have q12 : tm.getD 12 undef = .bool true := hfr 12 (noDst_of (by kernel_rfl))
                  have q13 : tm.getD 13 undef = .bool false := hfr 13 (noDst_of (by kernel_rfl))
                  have q14 : tm.getD 14 undef = .bool false := hfr 14 (noDst_of (by kernel_rfl))
                  have q15 : tm.getD 15 undef = .slice (some ⟨b, off, none⟩) n c := hfr 15 (noDst_of (by kernel_rfl))
                  have q16 : tm.getD 16 undef = .bool true := hfr 16 (noDst_of (by kernel_rfl))
                  have q17 : tm.getD 17 undef = .bool false := hfr 17 (noDst_of (by kernel_rfl))
                  have q18 : tm.getD 18 undef = .bool false := hfr 18 (noDst_of (by kernel_rfl))
                  have q19 : tm.getD 19 undef = .string s := hfr 19 (noDst_of (by kernel_rfl))
                  have q20 : tm.getD 20 undef = .slice (some ⟨g2, off2, none⟩) m c2 := hfr 20 (noDst_of (by kernel_rfl))
                  have q21 : tm.getD 21 undef = .int .i64 k := hfr 21 (noDst_of (by kernel_rfl))
                  have q22 : tm.getD 22 undef = .slice (some ⟨b, off, none⟩) n c := hfr 22 (noDst_of (by kernel_rfl))
                  have q23 : tm.getD 23 undef = .int .i64 n := hfr 23 (noDst_of (by kernel_rfl))
                  have q24 : tm.getD 24 undef = .bool true := hfr 24 (noDst_of (by kernel_rfl))
                  have q25 : tm.getD 25 undef = u25 := hfr 25 (noDst_of (by kernel_rfl))
                  have q26 : tm.getD 26 undef = u26 := hfr 26 (noDst_of (by kernel_rfl))
                  have q45 : tm.getD 45 undef = u45 := hfr 45 (noDst_of (by kernel_rfl))
                  have q46 : tm.getD 46 undef = u46 := hfr 46 (noDst_of (by kernel_rfl))
                  have q47 : tm.getD 47 undef = u47 := hfr 47 (noDst_of (by kernel_rfl))
                  have q48 : tm.getD 48 undef = u48 := hfr 48 (noDst_of (by kernel_rfl))
                  have q49 : tm.getD 49 undef = u49 := hfr 49 (noDst_of (by kernel_rfl))
                  have q50 : tm.getD 50 undef = u50 := hfr 50 (noDst_of (by kernel_rfl))
                  have q51 : tm.getD 51 undef = u51 := hfr 51 (noDst_of (by kernel_rfl))
                  have q52 : tm.getD 52 undef = u52 := hfr 52 (noDst_of (by kernel_rfl))
                  have q53 : tm.getD 53 undef = u53 := hfr 53 (noDst_of (by kernel_rfl))
                  have q54 : tm.getD 54 undef = u54 := hfr 54 (noDst_of (by kernel_rfl))
                  have q55 : tm.getD 55 undef = undef := hfr 55 (noDst_of (by kernel_rfl))
                  have q56 : tm.getD 56 undef = undef := hfr 56 (noDst_of (by kernel_rfl))
                  have q57 : tm.getD 57 undef = undef := hfr 57 (noDst_of (by kernel_rfl))
                  have q58 : tm.getD 58 undef = undef := hfr 58 (noDst_of (by kernel_rfl))
                  have q59 : tm.getD 59 undef = undef := hfr 59 (noDst_of (by kernel_rfl))
                  have q60 : tm.getD 60 undef = undef := hfr 60 (noDst_of (by kernel_rfl))
                  have q61 : tm.getD 61 undef = undef := hfr 61 (noDst_of (by kernel_rfl))
                  have q62 : tm.getD 62 undef = undef := hfr 62 (noDst_of (by kernel_rfl))
                  have q9 : tm.getD 9 undef = .bool (haE y ⟨za, zb⟩) := hJ.m 12 (by decide) (hall 12 (by decide))
                  have q := lit_of tm 63 hsz
                  simp only [List.range, List.range.loop, List.map, q0, q1, q2, q3, q4, q5, q6, q7, q8, q10, q11, q12, q13, q14, q15, q16, q17, q18, q19, q20, q21, q22, q23, q24, q25, q26, q45, q46, q47, q48, q49, q50, q51, q52, q53, q54, q55, q56, q57, q58, q59, q60, q61, q62, q9] at q
                  have HQ := Lib.hid q
                  clear q hsz hfr hJ hall q0 q1 q2 q3 q4 q5 q6 q7 q8 q10 q11 q12 q13 q14 q15 q16 q17 q18 q19 q20 q21 q22 q23 q24 q25 q26 q45 q46 q47 q48 q49 q50 q51 q52 q53 q54 q55 q56 q57 q58 q59 q60 q61 q62 q9
                  rw [HQ.out]
                  generalize tm.getD 27 undef = x27
                  generalize tm.getD 28 undef = x28
                  generalize tm.getD 29 undef = x29
                  generalize tm.getD 30 undef = x30
                  generalize tm.getD 31 undef = x31
                  generalize tm.getD 32 undef = x32
                  generalize tm.getD 33 undef = x33
                  generalize tm.getD 34 undef = x34
                  generalize tm.getD 35 undef = x35
                  generalize tm.getD 36 undef = x36
                  generalize tm.getD 37 undef = x37
                  generalize tm.getD 38 undef = x38
                  generalize tm.getD 39 undef = x39
                  generalize tm.getD 40 undef = x40
                  generalize tm.getD 41 undef = x41
                  generalize tm.getD 42 undef = x42
                  generalize tm.getD 43 undef = x43
                  generalize tm.getD 44 undef = x44
                  clear HQ
                  have hb2 := HBW.out
                  go_wp2
                  go_roundw
                  case rel => first | exact ⟨i + 1, by omega, by go_num, by rw [HO9.out], belB HB3.out HB3.out.size hb2⟩ | ((repeat apply Exists.intro); exact ⟨⟨i + 1, by omega, by go_num, by rw [HO9.out], belB HB3.out HB3.out.size hb2⟩, rfl⟩)
                  case measure => simp [intOf]; omega
              · rw [hok] at HOS
                have HO9 := Lib.hid (HOS.out.trans (Bool.true_or _))
                clear HOS
                go_upto_region 12 with (fail)
                refine wp_region_inv' (TabJ 13 (fun j => [33, 34, 35, 36, 37, 38, 39, 40, 41, 42, 43, 44, 9].getD j 0) (fun j v => match j with
                  | 0 => v = .bool true
                  | 1 => v = .bool true
                  | 2 => v = undef
                  | 3 => v = undef
                  | 4 => v = undef
                  | 5 => v = undef
                  | 6 => v = undef
                  | 7 => v = undef
                  | 8 => v = undef
                  | 9 => v = undef
                  | 10 => v = undef
                  | 11 => v = .bool true
                  | 12 => v = .bool true
                  | _ => True) 12 (.bool true) 20 21 0 #[] #[] wo) (by kernel_rfl) (regOkI_of (by kernel_rfl)) (TabJ.start (by intro h; rfl)) ?_ ?_
                · intro i o ff bx wb ho hf hrd hcl hsz hfr hJ K hK
                  have hi := (Array.getElem?_eq_some_iff.1 ho).1
                  simp only [List.size_toArray, List.length_cons, List.length_nil] at hi
                  have hcases : i = 0 ∨ i = 1 ∨ i = 2 ∨ i = 3 ∨ i = 4 ∨ i = 5 ∨ i = 6 ∨ i = 7 ∨ i = 8 ∨ i = 9 ∨ i = 10 ∨ i = 11 ∨ i = 12 := by omega
                  have hB := hJ.below.size
                  rcases hcases with rfl | rfl | rfl | rfl | rfl | rfl | rfl | rfl | rfl | rfl | rfl | rfl | rfl
                  · cases (show some _ = some o from ho)
                    refine ite_yes (by rfl) ?_
                    have hjw : ff 12 = false := by
                      cases e : ff 12
                      · rfl
                      · exfalso
                        have e11 := hcl 12 _ ⟨11, .data⟩ rfl e (by simp) rfl
                        have e1 := hcl 11 _ ⟨1, .data⟩ rfl e11 (by simp) rfl
                        have e0 := hcl 1 _ ⟨0, .data⟩ rfl e1 (by simp) rfl
                        rw [show ff 0 = true from e0] at hf; cases hf
                    have h9 : bx.tmps.getD 9 undef = .bool true := hJ.u (by decide) hjw
                    have f9 := getD_opt h9
                    have HK := Lib.hid hK
                    have HJ := Lib.hid hJ
                    clear hK hJ hcl hrd hfr hsz ho
                    go_simp
                    exact HK.out _ _ (HJ.out.pure (by decide +kernel) 0 (by decide) (by decide) (by decide) (by first | rfl | rw [hwk]))
                  · cases (show some _ = some o from ho)
                    refine ite_yes (by rfl) ?_
                    have h33 : bx.tmps.getD 33 undef = .bool true := hJ.m 0 (by decide) (hrd ⟨0, .data⟩ (by simp) rfl)
                    have f33 := getD_opt h33
                    have HK := Lib.hid hK
                    have HJ := Lib.hid hJ
                    clear hK hJ hcl hrd hfr hsz ho
                    go_simp
                    exact HK.out _ _ (HJ.out.pure (by decide +kernel) 1 (by decide) (by decide) (by decide) (by first | rfl | rw [hwk]))
                  · cases (show some _ = some o from ho)
                    have hg : bx.tmps.getD 34 undef = .bool true := hJ.m 1 (by decide) (hrd ⟨1, .guard⟩ (by simp) rfl)
                    refine ite_no ((wanted_of rfl rfl rfl hg).trans rfl) ?_
                    exact hK undef _ (hJ.pure (by decide +kernel) 2 (by decide) (by decide) (by decide) rfl)
                  · cases (show some _ = some o from ho)
                    have hg : bx.tmps.getD 34 undef = .bool true := hJ.m 1 (by decide) (hrd ⟨1, .guard⟩ (by simp) rfl)
                    refine ite_no ((wanted_of rfl rfl rfl hg).trans rfl) ?_
                    exact hK undef _ (hJ.pure (by decide +kernel) 3 (by decide) (by decide) (by decide) rfl)
                  · cases (show some _ = some o from ho)
                    have hg : bx.tmps.getD 34 undef = .bool true := hJ.m 1 (by decide) (hrd ⟨1, .guard⟩ (by simp) rfl)
                    refine ite_no ((wanted_of rfl rfl rfl hg).trans rfl) ?_
                    exact hK undef _ (hJ.pure (by decide +kernel) 4 (by decide) (by decide) (by decide) rfl)
                  · cases (show some _ = some o from ho)
                    have hg : bx.tmps.getD 34 undef = .bool true := hJ.m 1 (by decide) (hrd ⟨1, .guard⟩ (by simp) rfl)
                    refine ite_no ((wanted_of rfl rfl rfl hg).trans rfl) ?_
                    exact hK undef _ (hJ.pure (by decide +kernel) 5 (by decide) (by decide) (by decide) rfl)
                  · cases (show some _ = some o from ho)
                    have hg : bx.tmps.getD 34 undef = .bool true := hJ.m 1 (by decide) (hrd ⟨1, .guard⟩ (by simp) rfl)
                    refine ite_no ((wanted_of rfl rfl rfl hg).trans rfl) ?_
                    exact hK undef _ (hJ.pure (by decide +kernel) 6 (by decide) (by decide) (by decide) rfl)
                  · cases (show some _ = some o from ho)
                    have hg : bx.tmps.getD 34 undef = .bool true := hJ.m 1 (by decide) (hrd ⟨1, .guard⟩ (by simp) rfl)
                    refine ite_no ((wanted_of rfl rfl rfl hg).trans rfl) ?_
                    exact hK undef _ (hJ.pure (by decide +kernel) 7 (by decide) (by decide) (by decide) rfl)
                  · cases (show some _ = some o from ho)
                    have hg : bx.tmps.getD 34 undef = .bool true := hJ.m 1 (by decide) (hrd ⟨1, .guard⟩ (by simp) rfl)
                    refine ite_no ((wanted_of rfl rfl rfl hg).trans rfl) ?_
                    exact hK undef _ (hJ.pure (by decide +kernel) 8 (by decide) (by decide) (by decide) rfl)
                  · cases (show some _ = some o from ho)
                    have hg : bx.tmps.getD 34 undef = .bool true := hJ.m 1 (by decide) (hrd ⟨1, .guard⟩ (by simp) rfl)
                    refine ite_no ((wanted_of rfl rfl rfl hg).trans rfl) ?_
                    exact hK undef _ (hJ.pure (by decide +kernel) 9 (by decide) (by decide) (by decide) rfl)
                  · cases (show some _ = some o from ho)
                    have hg : bx.tmps.getD 34 undef = .bool true := hJ.m 1 (by decide) (hrd ⟨1, .guard⟩ (by simp) rfl)
                    refine ite_no ((wanted_of rfl rfl rfl hg).trans rfl) ?_
                    exact hK undef _ (hJ.pure (by decide +kernel) 10 (by decide) (by decide) (by decide) rfl)
                  · cases (show some _ = some o from ho)
                    refine ite_yes (by rfl) ?_
                    have h34 : bx.tmps.getD 34 undef = .bool true := hJ.m 1 (by decide) (hrd ⟨1, .data⟩ (by simp) rfl)
                    have f34 := getD_opt h34
                    have h43 : bx.tmps.getD 43 undef = undef := hJ.m 10 (by decide) (hrd ⟨10, .data⟩ (by simp) rfl)
                    have HK := Lib.hid hK
                    have HJ := Lib.hid hJ
                    clear hK hJ hcl hrd hfr hsz ho
                    go_simp
                    exact HK.out _ _ (HJ.out.pure (by decide +kernel) 11 (by decide) (by decide) (by decide) (by first | rfl | rw [hwk]))
                  · cases (show some _ = some o from ho)
                    refine ite_yes (by rfl) ?_
                    have h44 : bx.tmps.getD 44 undef = .bool true := hJ.m 11 (by decide) (hrd ⟨11, .data⟩ (by simp) rfl)
                    have f44 := getD_opt h44
                    have HK := Lib.hid hK
                    have HJ := Lib.hid hJ
                    clear hK hJ hcl hrd hfr hsz ho
                    go_simp
                    exact HK.out _ _ (HJ.out.pure (by decide +kernel) 12 (by decide) (by decide) (by decide) (by first | rfl | rw [hwk]))
                · intro ff bx wb hall hsz hdf hfr hJ
                  have HBW := Lib.hid hJ.below
                  obtain ⟨tm, df⟩ := bx
                  obtain rfl : df = [] := hdf
                  have q0 : tm.getD 0 undef = .string s := hfr 0 (noDst_of (by kernel_rfl))
                  have q1 : tm.getD 1 undef = .slice (some ⟨b, off, none⟩) n c := hfr 1 (noDst_of (by kernel_rfl))
                  have q2 : tm.getD 2 undef = undef := hfr 2 (noDst_of (by kernel_rfl))
                  have q3 : tm.getD 3 undef = undef := hfr 3 (noDst_of (by kernel_rfl))
                  have q4 : tm.getD 4 undef = .string ⟨#[]⟩ := hfr 4 (noDst_of (by kernel_rfl))
                  have q5 : tm.getD 5 undef = .bool false := hfr 5 (noDst_of (by kernel_rfl))
                  have q6 : tm.getD 6 undef = .slice (some ⟨g2, off2, none⟩) m c2 := hfr 6 (noDst_of (by kernel_rfl))
                  have q7 : tm.getD 7 undef = .string T := hfr 7 (noDst_of (by kernel_rfl))
                  have q8 : tm.getD 8 undef = .int .i64 k := hfr 8 (noDst_of (by kernel_rfl))
                  have q10 : tm.getD 10 undef = .int .i64 i := hfr 10 (noDst_of (by kernel_rfl))
                  have q11 : tm.getD 11 undef = .string s := hfr 11 (noDst_of (by kernel_rfl))
                  have q12 : tm.getD 12 undef = .bool true := hfr 12 (noDst_of (by kernel_rfl))
                  have q13 : tm.getD 13 undef = .bool false := hfr 13 (noDst_of (by kernel_rfl))
                  have q14 : tm.getD 14 undef = .bool false := hfr 14 (noDst_of (by kernel_rfl))
                  have q15 : tm.getD 15 undef = .slice (some ⟨b, off, none⟩) n c := hfr 15 (noDst_of (by kernel_rfl))
                  have q16 : tm.getD 16 undef = .bool true := hfr 16 (noDst_of (by kernel_rfl))
                  have q17 : tm.getD 17 undef = .bool false := hfr 17 (noDst_of (by kernel_rfl))
                  have q18 : tm.getD 18 undef = .bool false := hfr 18 (noDst_of (by kernel_rfl))
                  have q19 : tm.getD 19 undef = .string s := hfr 19 (noDst_of (by kernel_rfl))
                  have q20 : tm.getD 20 undef = .slice (some ⟨g2, off2, none⟩) m c2 := hfr 20 (noDst_of (by kernel_rfl))
                  have q21 : tm.getD 21 undef = .int .i64 k := hfr 21 (noDst_of (by kernel_rfl))
                  have q22 : tm.getD 22 undef = .slice (some ⟨b, off, none⟩) n c := hfr 22 (noDst_of (by kernel_rfl))
                  have q23 : tm.getD 23 undef = .int .i64 n := hfr 23 (noDst_of (by kernel_rfl))
                  have q24 : tm.getD 24 undef = .bool true := hfr 24 (noDst_of (by kernel_rfl))
                  have q25 : tm.getD 25 undef = u25 := hfr 25 (noDst_of (by kernel_rfl))
                  have q26 : tm.getD 26 undef = u26 := hfr 26 (noDst_of (by kernel_rfl))
                  have q45 : tm.getD 45 undef = u45 := hfr 45 (noDst_of (by kernel_rfl))
                  have q46 : tm.getD 46 undef = u46 := hfr 46 (noDst_of (by kernel_rfl))
                  have q47 : tm.getD 47 undef = u47 := hfr 47 (noDst_of (by kernel_rfl))
                  have q48 : tm.getD 48 undef = u48 := hfr 48 (noDst_of (by kernel_rfl))
                  have q49 : tm.getD 49 undef = u49 := hfr 49 (noDst_of (by kernel_rfl))
                  have q50 : tm.getD 50 undef = u50 := hfr 50 (noDst_of (by kernel_rfl))
                  have q51 : tm.getD 51 undef = u51 := hfr 51 (noDst_of (by kernel_rfl))
                  have q52 : tm.getD 52 undef = u52 := hfr 52 (noDst_of (by kernel_rfl))
                  have q53 : tm.getD 53 undef = u53 := hfr 53 (noDst_of (by kernel_rfl))
                  have q54 : tm.getD 54 undef = u54 := hfr 54 (noDst_of (by kernel_rfl))
                  have q55 : tm.getD 55 undef = undef := hfr 55 (noDst_of (by kernel_rfl))
                  have q56 : tm.getD 56 undef = undef := hfr 56 (noDst_of (by kernel_rfl))
                  have q57 : tm.getD 57 undef = undef := hfr 57 (noDst_of (by kernel_rfl))
                  have q58 : tm.getD 58 undef = undef := hfr 58 (noDst_of (by kernel_rfl))
                  have q59 : tm.getD 59 undef = undef := hfr 59 (noDst_of (by kernel_rfl))
                  have q60 : tm.getD 60 undef = undef := hfr 60 (noDst_of (by kernel_rfl))
                  have q61 : tm.getD 61 undef = undef := hfr 61 (noDst_of (by kernel_rfl))
                  have q62 : tm.getD 62 undef = undef := hfr 62 (noDst_of (by kernel_rfl))
                  have q9 : tm.getD 9 undef = .bool true := hJ.m 12 (by decide) (hall 12 (by decide))
                  have q := lit_of tm 63 hsz
                  simp only [List.range, List.range.loop, List.map, q0, q1, q2, q3, q4, q5, q6, q7, q8, q10, q11, q12, q13, q14, q15, q16, q17, q18, q19, q20, q21, q22, q23, q24, q25, q26, q45, q46, q47, q48, q49, q50, q51, q52, q53, q54, q55, q56, q57, q58, q59, q60, q61, q62, q9] at q
                  have HQ := Lib.hid q
                  clear q hsz hfr hJ hall q0 q1 q2 q3 q4 q5 q6 q7 q8 q10 q11 q12 q13 q14 q15 q16 q17 q18 q19 q20 q21 q22 q23 q24 q25 q26 q45 q46 q47 q48 q49 q50 q51 q52 q53 q54 q55 q56 q57 q58 q59 q60 q61 q62 q9
                  rw [HQ.out]
                  generalize tm.getD 27 undef = x27
                  generalize tm.getD 28 undef = x28
                  generalize tm.getD 29 undef = x29
                  generalize tm.getD 30 undef = x30
                  generalize tm.getD 31 undef = x31
                  generalize tm.getD 32 undef = x32
                  generalize tm.getD 33 undef = x33
                  generalize tm.getD 34 undef = x34
                  generalize tm.getD 35 undef = x35
                  generalize tm.getD 36 undef = x36
                  generalize tm.getD 37 undef = x37
                  generalize tm.getD 38 undef = x38
                  generalize tm.getD 39 undef = x39
                  generalize tm.getD 40 undef = x40
                  generalize tm.getD 41 undef = x41
                  generalize tm.getD 42 undef = x42
                  generalize tm.getD 43 undef = x43
                  generalize tm.getD 44 undef = x44
                  clear HQ
                  have hb2 := HBW.out
                  go_wp2
                  go_roundw
                  case rel => first | exact ⟨i + 1, by omega, by go_num, by rw [HO9.out], belB HB3.out HB3.out.size hb2⟩ | ((repeat apply Exists.intro); exact ⟨⟨i + 1, by omega, by go_num, by rw [HO9.out], belB HB3.out HB3.out.size hb2⟩, rfl⟩)
                  case measure => simp [intOf]; omega
            · obtain rfl : i = m := by omega
              cases hok : thJ N ⟨za, zb⟩ i
              · have HE : Hid (adK N l (k + 1) = (T ++ htB ⟨za, zb⟩) ++ ⟨#[32]⟩) := Lib.hid (by rw [HK1.out, hok]; rfl)
                clear HK1
                go_wp2_with fail
                refine (ht_spec za zb _ HZS.out.1 HZS.out.2).mono ?_
                rintro e w5 ⟨rfl, hb5⟩
                have HB5 := Lib.hid (belB HB3.out HB3.out.size hb5)
                clear hb5
                generalize htB ⟨za, zb⟩ = Y at *
                go_wp2
                go_roundw
                case rel => exact ⟨k + 1, by omega, by go_num, by rw [HE.out], HB5.out⟩
                case measure => simp [intOf]; omega
              · have HE : Hid (adK N l (k + 1) = T) := Lib.hid (by rw [HK1.out, hok]; rfl)
                clear HK1
                go_wp2
                go_roundw
                case rel => exact ⟨k + 1, by omega, by go_num, by rw [HE.out], HB3.out⟩
                case measure => simp [intOf]; omega
        · obtain rfl : k = n := by omega
          generalize hT : adK N l k = T at *
          have hxs : (adX s l).size ≤ maxLen := by rw [HADE.out, ByteArray.size_append]; simp only [maxLen]; omega
          have HXS := Lib.hid hxs; clear hxs hT
          cases hv : tvB (adX s l)
          all_goals
            rw [hv] at HVX
            (first | have HR := Lib.hid (HAY.out HVX.out) | have HR := Lib.hid (HAN.out HVX.out))
            have HTV := Lib.hid hv; clear hv
            rw [HADE.out] at HXS HTV
            try rw [HADE.out] at HR
            go_wp2_with fail
            refine (stv_any _ _ HXS.out).mono ?_
            rw [HTV.out]
            rintro e w' ⟨rfl, rfl⟩
            go_wp2_with fail
            go_ret2
            exact ⟨by rw [HVX.out, HR.out]; rfl, belt HB2.out HB.out⟩
end Go.Proofs.YtpbnbekkmifbpaaDoor
