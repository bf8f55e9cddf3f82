/-
  The contract of KeepFans of the reference.
-/
import Derived.Test.YtajfglcoigklnaaKeepFans
import Derived.Test.YtajfglcoigklnaaTab
namespace Go.Proofs.Ytajfglcoigklnaa
open Go.ChangeShapes Go.WideShapes Go.ChangeAt Go.RowKit Go.Joins
set_option linter.unusedVariables false

def apB (l : List Bl) (host : ByteArray) (j : Nat) : Bool := (l.take j).any fun b => blH b host
theorem apB_0 (l : List Bl) (host : ByteArray) : apB l host 0 = false := by simp [apB]
theorem apB_succ {l : List Bl} {host : ByteArray} {j : Nat} {z : Bl} (hz : l[j]? = some z) : apB l host (j + 1) = (apB l host j || blH z host) := by
  unfold apB; rw [take_snoc_get l j z hz, List.any_append]; simp
theorem apB_end (l : List Bl) (host : ByteArray) : apB l host l.length = ahB l host := by simp [apB, ahB]
set_option maxRecDepth 100000 in
set_option maxHeartbeats 8000000 in
theorem skf_any (A : Option Addr) (n c : Nat) (l : List Bl) (B : Option Addr) (m d : Nat) (f : List Ha) (w : World) (h : Rd w 3 A n (bls l)) (hnc : n ≤ c) (hc : c ≤ maxLen) (hs : ∀ z ∈ l, z.a.size ≤ maxLen)
    (h2 : Rd w 2 B m (has f)) (hm : m ≤ 1048576) (hmd : m ≤ d) (hd : d ≤ maxLen) (hs2 : ∀ z ∈ f, z.a.size ≤ maxLen ∧ z.b.size ≤ maxLen) :
    Calls Try.prog 32 #[.slice A n c, .slice B m d] w fun e w' => ∃ v, e = .returned v ∧ w'.ownsRow w.heap.size 43 2 v (kfL l f).length (has (kfL l f)) ∧ Below w.heap.size w w' := by
  have hl2 := rd_halen h2
  have hll := rd_bllen h
  have H := Lib.hid h; have HLL := Lib.hid hll; have HS := Lib.hid hs; have HNC := Lib.hid hnc; have HC := Lib.hid hc; have hnl := Nat.le_trans hnc hc; have HNL := Lib.hid hnl
  have H2 := Lib.hid h2; have HL2 := Lib.hid hl2; have HS2 := Lib.hid hs2; have HMD := Lib.hid hmd; have HD := Lib.hid hd
  clear h hll hs hnc hc h2 hl2 hs2 hmd hd
  unfold maxLen at hnl
  obtain ⟨i0, hi, hz0, hz1, hz2⟩ := info_parts ha_info
  have HI := Lib.hid hi; have HZ0 := Lib.hid hz0; have HZ1 := Lib.hid hz1; have HZ2 := Lib.hid hz2
  clear hi hz0 hz1 hz2
  generalize hr : kfL l f = R
  have HR := Lib.hid hr; clear hr
  go_enter Try.func32, Try.ntmps32
  go_wp2_with fail
  go_loopw [5, 6] (fun v i wr => ∃ k : Nat, k ≤ m ∧ i = .int .i64 k ∧ wr.ownsRow w.heap.size 43 2 v (kfK l f k).length (has (kfK l f k)) ∧ Below w.heap.size w wr ∧ (bvB l = false ∨ fvB f = false → k = 0)) (fun _ i _ => m - (intOf i).toNat)
  case atStart => exact ⟨0, Nat.zero_le _, rfl, by rw [kfK_0]; exact World.ownsRow_made w #[] 0 (Nat.le_refl _) (by simp) (by simp), (Below.refl _ _).alloc (Nat.le_refl _) _, fun _ => rfl⟩
  case round =>
    obtain ⟨k, hk, rfl, ho, hb, hv0⟩ := hrel
    have HO := Lib.hid ho; have HB := Lib.hid hb; have HV0 := Lib.hid hv0
    have hle := kfK_le l f k
    clear ho hb hv0
    by_cases hlt : k < m
    · cases hv : bvB l
      · have HE : Hid (R = kfK l f k) := Lib.hid (by rw [← HR.out, kfL_no (.inl hv), HV0.out (.inl hv), kfK_0])
        go_wp2_with fail
        refine (sbv_any _ _ _ _ _ (H.out.below HB.out) HNL.out HS.out).mono ?_
        rw [hv]
        rintro e w1 ⟨rfl, hb1⟩
        have HB1 := Lib.hid (belB HB.out HB.out.size hb1); have HO1 := Lib.hid (own_below HO.out hb1); clear hb1
        go_wp2_with fail
        go_ret
        exact ⟨_, rfl, by rw [HE.out]; exact HO1.out, HB1.out⟩
      · have HV := Lib.hid hv; clear hv
        cases hf : fvB f
        · have HE : Hid (R = kfK l f k) := Lib.hid (by rw [← HR.out, kfL_no (.inr hf), HV0.out (.inr hf), kfK_0])
          go_wp2_with fail
          refine (sbv_any _ _ _ _ _ (H.out.below HB.out) HNL.out HS.out).mono ?_
          rw [HV.out]
          rintro e w1 ⟨rfl, hb1⟩
          have HB1 := Lib.hid (belB HB.out HB.out.size hb1); have HO1 := Lib.hid (own_below HO.out hb1); clear hb1
          go_wp2_with fail
          refine (sfv_any _ _ _ _ _ (H2.out.below HB1.out) HMD.out HD.out HS2.out).mono ?_
          rw [hf]
          rintro e w2 ⟨rfl, hb2⟩
          have HB2 := Lib.hid (belB HB1.out HB1.out.size hb2); have HO2 := Lib.hid (own_below HO1.out hb2); clear hb2
          go_wp2_with fail
          go_ret
          exact ⟨_, rfl, by rw [HE.out]; exact HO2.out, HB2.out⟩
        · go_wp2_with fail
          refine (sbv_any _ _ _ _ _ (H.out.below HB.out) HNL.out HS.out).mono ?_
          rw [HV.out]
          rintro e w1 ⟨rfl, hb1⟩
          have HB1 := Lib.hid (belB HB.out HB.out.size hb1); have HO1 := Lib.hid (own_below HO.out hb1); clear hb1
          go_wp2_with fail
          refine (sfv_any _ _ _ _ _ (H2.out.below HB1.out) HMD.out HD.out HS2.out).mono ?_
          rw [hf]
          rintro e w2 ⟨rfl, hb2⟩
          have HB2 := Lib.hid (belB HB1.out HB1.out.size hb2); have HO2 := Lib.hid (own_below HO1.out hb2); clear hb2
          clear HB1 HO1 HB HO
          obtain ⟨b2, off2, y, eB, hbl2, hy, hd0, hd1⟩ := (H2.out.below HB2.out).ha hlt
          subst eB
          have HSY := Lib.hid (HS2.out y (List.mem_of_getElem? hy))
          have HY := Lib.hid hy; clear hy hd0 hd1 hbl2
          go_wp2_with fail
          go_loopw [7, 8] (fun hit j wr => ∃ i : Nat, i ≤ n ∧ j = .int .i64 i ∧ hit = .bool (apB l y.b i) ∧ wr.ownsRow w.heap.size 43 2 u5 (kfK l f k).length (has (kfK l f k)) ∧ Below w.heap.size w wr) (fun _ j _ => n - (intOf j).toNat)
          case atStart => exact ⟨0, Nat.zero_le _, rfl, by rw [apB_0], HO2.out, HB2.out⟩
          case round =>
            obtain ⟨i, hi, rfl, rfl, ho, hb⟩ := hrel
            have HO := Lib.hid ho; have HB := Lib.hid hb
            clear ho hb HB2 HO2
            by_cases hin : i < n
            · obtain ⟨b, off, z, eA, hbl, hz, hc0, hc1, hc2⟩ := (H.out.below HB.out).bl hin
              subst eA
              obtain ⟨b2', off2', y', eB, hbl2, hy, hd0, hd1⟩ := (H2.out.below HB.out).ha hlt
              injection eB with eB; injection eB with e1 e2
              subst e1; subst e2
              rw [HY.out] at hy; injection hy with hy; subst hy
              have HSZ := Lib.hid (HS.out z (List.mem_of_getElem? hz))
              have HZ := Lib.hid hz; clear hz
              have HAS := Lib.hid (apB_succ (host := y.b) HZ.out)
              obtain ⟨wo, rfl⟩ : ∃ wo : World, wo = wr := ⟨_, rfl⟩
              cases hit : apB l y.b i
              · rw [hit] at HAS
                go_upto_region 9 with (fail)
                refine wp_region_inv' (TabJ 14 (fun j => [30, 31, 32, 33, 34, 35, 36, 37, 38, 39, 40, 41, 42, 7].getD j 0) (fun j v => match j with
                  | 0 => v = .bool false
                  | 1 => v = .bool false
                  | 2 => v = .slice (some ⟨b, off, none⟩) n c
                  | 3 => v = .int .i64 i
                  | 4 => v = .pointer (some ⟨b, off + i * 3, none⟩)
                  | 5 => v = .agg #[.string z.a, .bool z.b, .bool z.c]
                  | 6 => v = .slice (some ⟨b2, off2, none⟩) m d
                  | 7 => v = .int .i64 k
                  | 8 => v = .pointer (some ⟨b2, off2 + k * 2, none⟩)
                  | 9 => v = .pointer (some ⟨b2, off2 + k * 2 + 1, none⟩)
                  | 10 => v = .string y.b
                  | 11 => v = .bool (bhB z.a z.b y.b)
                  | 12 => v = .bool (bhB z.a z.b y.b)
                  | 13 => v = .bool (bhB z.a z.b y.b)
                  | _ => True) 13 (.bool false) 21 22 0 #[] #[] wo) (by kernel_rfl) (regOkI_of (by kernel_rfl)) (TabJ.start (by intro h; rfl)) ?_ ?_
                · intro i o f bx wb ho hf hrd hcl hsz hfr hJ K hK
                  have hi := (Array.getElem?_eq_some_iff.1 ho).1
                  simp only [List.size_toArray, List.length_cons, List.length_nil] at hi
                  have hcases : i = 0 ∨ i = 1 ∨ i = 2 ∨ i = 3 ∨ i = 4 ∨ i = 5 ∨ i = 6 ∨ i = 7 ∨ i = 8 ∨ i = 9 ∨ i = 10 ∨ i = 11 ∨ i = 12 ∨ i = 13 := by omega
                  have hB := hJ.below.size
                  rcases hcases with rfl | rfl | rfl | rfl | rfl | rfl | rfl | rfl | rfl | rfl | rfl | rfl | rfl | rfl
                  · cases (show some _ = some o from ho)
                    refine ite_yes (by rfl) ?_
                    have hjw : f 13 = false := by
                      cases e : f 13
                      · rfl
                      · exfalso
                        have e12 := hcl 13 _ ⟨12, .data⟩ rfl e (by simp) rfl
                        have e1 := hcl 12 _ ⟨1, .data⟩ rfl e12 (by simp) rfl
                        have e0 := hcl 1 _ ⟨0, .data⟩ rfl e1 (by simp) rfl
                        rw [show f 0 = true from e0] at hf; cases hf
                    have h7 : bx.tmps.getD 7 undef = .bool false := hJ.u (by decide) hjw
                    have f7 := getD_opt h7
                    have HK := Lib.hid hK
                    have HJ := Lib.hid hJ
                    clear hK hJ hcl hrd hfr hsz ho
                    go_simp
                    exact HK.out _ _ (HJ.out.pure (by decide +kernel) 0 (by decide) (by decide) (by decide) rfl)
                  · cases (show some _ = some o from ho)
                    refine ite_yes (by rfl) ?_
                    have h30 : bx.tmps.getD 30 undef = .bool false := hJ.m 0 (by decide) (hrd ⟨0, .data⟩ (by simp) rfl)
                    have f30 := getD_opt h30
                    have HK := Lib.hid hK
                    have HJ := Lib.hid hJ
                    clear hK hJ hcl hrd hfr hsz ho
                    go_simp
                    exact HK.out _ _ (HJ.out.pure (by decide +kernel) 1 (by decide) (by decide) (by decide) rfl)
                  · cases (show some _ = some o from ho)
                    have hg : bx.tmps.getD 31 undef = .bool false := hJ.m 1 (by decide) (hrd ⟨1, .guard⟩ (by simp) rfl)
                    refine ite_yes ((wanted_of rfl rfl rfl hg).trans rfl) ?_
                    have h0 : bx.tmps.getD 0 undef = .slice (some ⟨b, off, none⟩) n c := hfr 0 (noDst_of (by kernel_rfl))
                    have f0 := getD_opt h0
                    have HK := Lib.hid hK
                    have HJ := Lib.hid hJ
                    clear hK hJ hcl hrd hfr hsz ho
                    go_simp
                    exact HK.out _ _ (HJ.out.pure (by decide +kernel) 2 (by decide) (by decide) (by decide) rfl)
                  · cases (show some _ = some o from ho)
                    have hg : bx.tmps.getD 31 undef = .bool false := hJ.m 1 (by decide) (hrd ⟨1, .guard⟩ (by simp) rfl)
                    refine ite_yes ((wanted_of rfl rfl rfl hg).trans rfl) ?_
                    have h8 : bx.tmps.getD 8 undef = .int .i64 i := hfr 8 (noDst_of (by kernel_rfl))
                    have f8 := getD_opt h8
                    have HK := Lib.hid hK
                    have HJ := Lib.hid hJ
                    clear hK hJ hcl hrd hfr hsz ho
                    go_simp
                    exact HK.out _ _ (HJ.out.pure (by decide +kernel) 3 (by decide) (by decide) (by decide) rfl)
                  · cases (show some _ = some o from ho)
                    have hg : bx.tmps.getD 31 undef = .bool false := hJ.m 1 (by decide) (hrd ⟨1, .guard⟩ (by simp) rfl)
                    refine ite_yes ((wanted_of rfl rfl rfl hg).trans rfl) ?_
                    have h32 : bx.tmps.getD 32 undef = .slice (some ⟨b, off, none⟩) n c := hJ.m 2 (by decide) (hrd ⟨2, .data⟩ (by simp) rfl)
                    have f32 := getD_opt h32
                    have h33 : bx.tmps.getD 33 undef = .int .i64 i := hJ.m 3 (by decide) (hrd ⟨3, .data⟩ (by simp) rfl)
                    have f33 := getD_opt h33
                    have HK := Lib.hid hK
                    have HJ := Lib.hid hJ
                    clear hK hJ hcl hrd hfr hsz ho
                    go_simp
                    try rw [if_pos (by omega)]
                    exact HK.out _ _ (HJ.out.pure (by decide +kernel) 4 (by decide) (by decide) (by decide) rfl)
                  · cases (show some _ = some o from ho)
                    have hg : bx.tmps.getD 31 undef = .bool false := hJ.m 1 (by decide) (hrd ⟨1, .guard⟩ (by simp) rfl)
                    refine ite_yes ((wanted_of rfl rfl rfl hg).trans rfl) ?_
                    have h34 : bx.tmps.getD 34 undef = .pointer (some ⟨b, off + i * 3, none⟩) := hJ.m 4 (by decide) (hrd ⟨4, .data⟩ (by simp) rfl)
                    have f34 := getD_opt h34
                    have c0 := (hJ.below.cell (p := ⟨b, off + i * 3, none⟩) hbl).trans hc0
                    have c1 := (hJ.below.cell (p := ⟨b, off + i * 3 + 1, none⟩) hbl).trans hc1
                    have c2 := (hJ.below.cell (p := ⟨b, off + i * 3 + 2, none⟩) hbl).trans hc2
                    have d1 := (hJ.below.cell (p := ⟨b2, off2 + k * 2 + 1, none⟩) hbl2).trans hd1
                    have HK := Lib.hid hK
                    have HJ := Lib.hid hJ
                    clear hK hJ hcl hrd hfr hsz ho
                    go_simp
                    exact HK.out _ _ (HJ.out.pure (by decide +kernel) 5 (by decide) (by decide) (by decide) rfl)
                  · cases (show some _ = some o from ho)
                    have hg : bx.tmps.getD 31 undef = .bool false := hJ.m 1 (by decide) (hrd ⟨1, .guard⟩ (by simp) rfl)
                    refine ite_yes ((wanted_of rfl rfl rfl hg).trans rfl) ?_
                    have h1 : bx.tmps.getD 1 undef = .slice (some ⟨b2, off2, none⟩) m d := hfr 1 (noDst_of (by kernel_rfl))
                    have f1 := getD_opt h1
                    have HK := Lib.hid hK
                    have HJ := Lib.hid hJ
                    clear hK hJ hcl hrd hfr hsz ho
                    go_simp
                    exact HK.out _ _ (HJ.out.pure (by decide +kernel) 6 (by decide) (by decide) (by decide) rfl)
                  · cases (show some _ = some o from ho)
                    have hg : bx.tmps.getD 31 undef = .bool false := hJ.m 1 (by decide) (hrd ⟨1, .guard⟩ (by simp) rfl)
                    refine ite_yes ((wanted_of rfl rfl rfl hg).trans rfl) ?_
                    have h6 : bx.tmps.getD 6 undef = .int .i64 k := hfr 6 (noDst_of (by kernel_rfl))
                    have f6 := getD_opt h6
                    have HK := Lib.hid hK
                    have HJ := Lib.hid hJ
                    clear hK hJ hcl hrd hfr hsz ho
                    go_simp
                    exact HK.out _ _ (HJ.out.pure (by decide +kernel) 7 (by decide) (by decide) (by decide) rfl)
                  · cases (show some _ = some o from ho)
                    have hg : bx.tmps.getD 31 undef = .bool false := hJ.m 1 (by decide) (hrd ⟨1, .guard⟩ (by simp) rfl)
                    refine ite_yes ((wanted_of rfl rfl rfl hg).trans rfl) ?_
                    have h36 : bx.tmps.getD 36 undef = .slice (some ⟨b2, off2, none⟩) m d := hJ.m 6 (by decide) (hrd ⟨6, .data⟩ (by simp) rfl)
                    have f36 := getD_opt h36
                    have h37 : bx.tmps.getD 37 undef = .int .i64 k := hJ.m 7 (by decide) (hrd ⟨7, .data⟩ (by simp) rfl)
                    have f37 := getD_opt h37
                    have HK := Lib.hid hK
                    have HJ := Lib.hid hJ
                    clear hK hJ hcl hrd hfr hsz ho
                    go_simp
                    try rw [if_pos (by omega)]
                    exact HK.out _ _ (HJ.out.pure (by decide +kernel) 8 (by decide) (by decide) (by decide) rfl)
                  · cases (show some _ = some o from ho)
                    have hg : bx.tmps.getD 31 undef = .bool false := hJ.m 1 (by decide) (hrd ⟨1, .guard⟩ (by simp) rfl)
                    refine ite_yes ((wanted_of rfl rfl rfl hg).trans rfl) ?_
                    have h38 : bx.tmps.getD 38 undef = .pointer (some ⟨b2, off2 + k * 2, none⟩) := hJ.m 8 (by decide) (hrd ⟨8, .data⟩ (by simp) rfl)
                    have f38 := getD_opt h38
                    have HK := Lib.hid hK
                    have HJ := Lib.hid hJ
                    clear hK hJ hcl hrd hfr hsz ho
                    go_simp
                    exact HK.out _ _ (HJ.out.pure (by decide +kernel) 9 (by decide) (by decide) (by decide) rfl)
                  · cases (show some _ = some o from ho)
                    have hg : bx.tmps.getD 31 undef = .bool false := hJ.m 1 (by decide) (hrd ⟨1, .guard⟩ (by simp) rfl)
                    refine ite_yes ((wanted_of rfl rfl rfl hg).trans rfl) ?_
                    have h39 : bx.tmps.getD 39 undef = .pointer (some ⟨b2, off2 + k * 2 + 1, none⟩) := hJ.m 9 (by decide) (hrd ⟨9, .data⟩ (by simp) rfl)
                    have f39 := getD_opt h39
                    have c0 := (hJ.below.cell (p := ⟨b, off + i * 3, none⟩) hbl).trans hc0
                    have c1 := (hJ.below.cell (p := ⟨b, off + i * 3 + 1, none⟩) hbl).trans hc1
                    have c2 := (hJ.below.cell (p := ⟨b, off + i * 3 + 2, none⟩) hbl).trans hc2
                    have d1 := (hJ.below.cell (p := ⟨b2, off2 + k * 2 + 1, none⟩) hbl2).trans hd1
                    have HK := Lib.hid hK
                    have HJ := Lib.hid hJ
                    clear hK hJ hcl hrd hfr hsz ho
                    go_simp
                    exact HK.out _ _ (HJ.out.pure (by decide +kernel) 10 (by decide) (by decide) (by decide) rfl)
                  · cases (show some _ = some o from ho)
                    have hg : bx.tmps.getD 31 undef = .bool false := hJ.m 1 (by decide) (hrd ⟨1, .guard⟩ (by simp) rfl)
                    refine ite_yes ((wanted_of rfl rfl rfl hg).trans rfl) ?_
                    have h35 : bx.tmps.getD 35 undef = .agg #[.string z.a, .bool z.b, .bool z.c] := hJ.m 5 (by decide) (hrd ⟨5, .data⟩ (by simp) rfl)
                    have f35 := getD_opt h35
                    have h40 : bx.tmps.getD 40 undef = .string y.b := hJ.m 10 (by decide) (hrd ⟨10, .data⟩ (by simp) rfl)
                    have f40 := getD_opt h40
                    have HK := Lib.hid hK
                    have HJ := Lib.hid hJ
                    clear hK hJ hcl hrd hfr hsz ho
                    go_simp
                    refine (sbh_any _ _ _ _ _ HSY.out.2 HSZ.out).mono ?_
                    rintro e w' ⟨rfl, o1, n1, rfl⟩
                    exact HK.out _ _ (HJ.out.step (by decide +kernel) 11 (by decide) (by decide) (by decide) (bdN (bel1 rfl) n1) rfl)
                  · cases (show some _ = some o from ho)
                    refine ite_yes (by rfl) ?_
                    have h31 : bx.tmps.getD 31 undef = .bool false := hJ.m 1 (by decide) (hrd ⟨1, .data⟩ (by simp) rfl)
                    have f31 := getD_opt h31
                    have h41 : bx.tmps.getD 41 undef = .bool (bhB z.a z.b y.b) := hJ.m 11 (by decide) (hrd ⟨11, .data⟩ (by simp) rfl)
                    have f41 := getD_opt h41
                    have HK := Lib.hid hK
                    have HJ := Lib.hid hJ
                    clear hK hJ hcl hrd hfr hsz ho
                    go_simp
                    exact HK.out _ _ (HJ.out.pure (by decide +kernel) 12 (by decide) (by decide) (by decide) rfl)
                  · cases (show some _ = some o from ho)
                    refine ite_yes (by rfl) ?_
                    have h42 : bx.tmps.getD 42 undef = .bool (bhB z.a z.b y.b) := hJ.m 12 (by decide) (hrd ⟨12, .data⟩ (by simp) rfl)
                    have f42 := getD_opt h42
                    have HK := Lib.hid hK
                    have HJ := Lib.hid hJ
                    clear hK hJ hcl hrd hfr hsz ho
                    go_simp
                    exact HK.out _ _ (HJ.out.pure (by decide +kernel) 13 (by decide) (by decide) (by decide) rfl)
                · intro f bx wb hall hsz hdf hfr hJ
                  have HBW := Lib.hid hJ.below
                  obtain ⟨tm, df⟩ := bx
                  obtain rfl : df = [] := hdf
                  have q0 : tm.getD 0 undef = .slice (some ⟨b, off, none⟩) n c := hfr 0 (noDst_of (by kernel_rfl))
                  have q1 : tm.getD 1 undef = .slice (some ⟨b2, off2, none⟩) m d := hfr 1 (noDst_of (by kernel_rfl))
                  have q2 : tm.getD 2 undef = undef := hfr 2 (noDst_of (by kernel_rfl))
                  have q3 : tm.getD 3 undef = undef := hfr 3 (noDst_of (by kernel_rfl))
                  have q4 : tm.getD 4 undef = .slice none 0 0 := hfr 4 (noDst_of (by kernel_rfl))
                  have q5 : tm.getD 5 undef = u5 := hfr 5 (noDst_of (by kernel_rfl))
                  have q6 : tm.getD 6 undef = .int .i64 k := hfr 6 (noDst_of (by kernel_rfl))
                  have q8 : tm.getD 8 undef = .int .i64 i := hfr 8 (noDst_of (by kernel_rfl))
                  have q9 : tm.getD 9 undef = .slice (some ⟨w.heap.size, 0, none⟩) 0 0 := hfr 9 (noDst_of (by kernel_rfl))
                  have q10 : tm.getD 10 undef = .int .i64 k := hfr 10 (noDst_of (by kernel_rfl))
                  have q11 : tm.getD 11 undef = .slice (some ⟨b2, off2, none⟩) m d := hfr 11 (noDst_of (by kernel_rfl))
                  have q12 : tm.getD 12 undef = .int .i64 m := hfr 12 (noDst_of (by kernel_rfl))
                  have q13 : tm.getD 13 undef = .bool true := hfr 13 (noDst_of (by kernel_rfl))
                  have q14 : tm.getD 14 undef = .bool true := hfr 14 (noDst_of (by kernel_rfl))
                  have q15 : tm.getD 15 undef = .slice (some ⟨b, off, none⟩) n c := hfr 15 (noDst_of (by kernel_rfl))
                  have q16 : tm.getD 16 undef = .bool true := hfr 16 (noDst_of (by kernel_rfl))
                  have q17 : tm.getD 17 undef = .bool true := hfr 17 (noDst_of (by kernel_rfl))
                  have q18 : tm.getD 18 undef = .bool true := hfr 18 (noDst_of (by kernel_rfl))
                  have q19 : tm.getD 19 undef = .slice (some ⟨b2, off2, none⟩) m d := hfr 19 (noDst_of (by kernel_rfl))
                  have q20 : tm.getD 20 undef = .bool true := hfr 20 (noDst_of (by kernel_rfl))
                  have q21 : tm.getD 21 undef = .bool true := hfr 21 (noDst_of (by kernel_rfl))
                  have q22 : tm.getD 22 undef = u22 := hfr 22 (noDst_of (by kernel_rfl))
                  have q23 : tm.getD 23 undef = u23 := hfr 23 (noDst_of (by kernel_rfl))
                  have q43 : tm.getD 43 undef = u43 := hfr 43 (noDst_of (by kernel_rfl))
                  have q44 : tm.getD 44 undef = u44 := hfr 44 (noDst_of (by kernel_rfl))
                  have q45 : tm.getD 45 undef = u45 := hfr 45 (noDst_of (by kernel_rfl))
                  have q46 : tm.getD 46 undef = u46 := hfr 46 (noDst_of (by kernel_rfl))
                  have q47 : tm.getD 47 undef = u47 := hfr 47 (noDst_of (by kernel_rfl))
                  have q48 : tm.getD 48 undef = u48 := hfr 48 (noDst_of (by kernel_rfl))
                  have q49 : tm.getD 49 undef = u49 := hfr 49 (noDst_of (by kernel_rfl))
                  have q50 : tm.getD 50 undef = u50 := hfr 50 (noDst_of (by kernel_rfl))
                  have q51 : tm.getD 51 undef = u51 := hfr 51 (noDst_of (by kernel_rfl))
                  have q52 : tm.getD 52 undef = undef := hfr 52 (noDst_of (by kernel_rfl))
                  have q7 : tm.getD 7 undef = .bool (bhB z.a z.b y.b) := hJ.m 13 (by decide) (hall 13 (by decide))
                  have q := lit_of tm 53 hsz
                  simp only [List.range, List.range.loop, List.map, q0, q1, q2, q3, q4, q5, q6, q8, q9, q10, q11, q12, q13, q14, q15, q16, q17, q18, q19, q20, q21, q22, q23, q43, q44, q45, q46, q47, q48, q49, q50, q51, q52, q7] at q
                  have HQ := Lib.hid q
                  clear q hsz hfr hJ hall q0 q1 q2 q3 q4 q5 q6 q8 q9 q10 q11 q12 q13 q14 q15 q16 q17 q18 q19 q20 q21 q22 q23 q43 q44 q45 q46 q47 q48 q49 q50 q51 q52 q7
                  rw [HQ.out]
                  generalize tm.getD 24 undef = x24
                  generalize tm.getD 25 undef = x25
                  generalize tm.getD 26 undef = x26
                  generalize tm.getD 27 undef = x27
                  generalize tm.getD 28 undef = x28
                  generalize tm.getD 29 undef = x29
                  generalize tm.getD 30 undef = x30
                  generalize tm.getD 31 undef = x31
                  generalize tm.getD 32 undef = x32
                  generalize tm.getD 33 undef = x33
                  generalize tm.getD 34 undef = x34
                  generalize tm.getD 35 undef = x35
                  generalize tm.getD 36 undef = x36
                  generalize tm.getD 37 undef = x37
                  generalize tm.getD 38 undef = x38
                  generalize tm.getD 39 undef = x39
                  generalize tm.getD 40 undef = x40
                  generalize tm.getD 41 undef = x41
                  generalize tm.getD 42 undef = x42
                  clear HQ
                  have HB3 := Lib.hid (belB HB.out HB.out.size HBW.out)
                  have HO3 := Lib.hid (own_below HO.out HBW.out)
                  clear HBW
                  go_wp2_with fail
                  go_roundw
                  case rel => exact ⟨i + 1, by omega, by go_num, by rw [HAS.out]; simp [blH], HO3.out, HB3.out⟩
                  case measure => simp [intOf]; omega
              · rw [hit] at HAS
                go_upto_region 9 with (fail)
                refine wp_region_inv' (TabJ 14 (fun j => [30, 31, 32, 33, 34, 35, 36, 37, 38, 39, 40, 41, 42, 7].getD j 0) (fun j v => match j with
                  | 0 => v = .bool true
                  | 1 => v = .bool true
                  | 2 => v = undef
                  | 3 => v = undef
                  | 4 => v = undef
                  | 5 => v = undef
                  | 6 => v = undef
                  | 7 => v = undef
                  | 8 => v = undef
                  | 9 => v = undef
                  | 10 => v = undef
                  | 11 => v = undef
                  | 12 => v = .bool true
                  | 13 => v = .bool true
                  | _ => True) 13 (.bool true) 21 22 0 #[] #[] wo) (by kernel_rfl) (regOkI_of (by kernel_rfl)) (TabJ.start (by intro h; rfl)) ?_ ?_
                · intro i o f bx wb ho hf hrd hcl hsz hfr hJ K hK
                  have hi := (Array.getElem?_eq_some_iff.1 ho).1
                  simp only [List.size_toArray, List.length_cons, List.length_nil] at hi
                  have hcases : i = 0 ∨ i = 1 ∨ i = 2 ∨ i = 3 ∨ i = 4 ∨ i = 5 ∨ i = 6 ∨ i = 7 ∨ i = 8 ∨ i = 9 ∨ i = 10 ∨ i = 11 ∨ i = 12 ∨ i = 13 := by omega
                  have hB := hJ.below.size
                  rcases hcases with rfl | rfl | rfl | rfl | rfl | rfl | rfl | rfl | rfl | rfl | rfl | rfl | rfl | rfl
                  · cases (show some _ = some o from ho)
                    refine ite_yes (by rfl) ?_
                    have hjw : f 13 = false := by
                      cases e : f 13
                      · rfl
                      · exfalso
                        have e12 := hcl 13 _ ⟨12, .data⟩ rfl e (by simp) rfl
                        have e1 := hcl 12 _ ⟨1, .data⟩ rfl e12 (by simp) rfl
                        have e0 := hcl 1 _ ⟨0, .data⟩ rfl e1 (by simp) rfl
                        rw [show f 0 = true from e0] at hf; cases hf
                    have h7 : bx.tmps.getD 7 undef = .bool true := hJ.u (by decide) hjw
                    have f7 := getD_opt h7
                    have HK := Lib.hid hK
                    have HJ := Lib.hid hJ
                    clear hK hJ hcl hrd hfr hsz ho
                    go_simp
                    exact HK.out _ _ (HJ.out.pure (by decide +kernel) 0 (by decide) (by decide) (by decide) rfl)
                  · cases (show some _ = some o from ho)
                    refine ite_yes (by rfl) ?_
                    have h30 : bx.tmps.getD 30 undef = .bool true := hJ.m 0 (by decide) (hrd ⟨0, .data⟩ (by simp) rfl)
                    have f30 := getD_opt h30
                    have HK := Lib.hid hK
                    have HJ := Lib.hid hJ
                    clear hK hJ hcl hrd hfr hsz ho
                    go_simp
                    exact HK.out _ _ (HJ.out.pure (by decide +kernel) 1 (by decide) (by decide) (by decide) rfl)
                  · cases (show some _ = some o from ho)
                    have hg : bx.tmps.getD 31 undef = .bool true := hJ.m 1 (by decide) (hrd ⟨1, .guard⟩ (by simp) rfl)
                    refine ite_no ((wanted_of rfl rfl rfl hg).trans rfl) ?_
                    exact hK undef _ (hJ.pure (by decide +kernel) 2 (by decide) (by decide) (by decide) rfl)
                  · cases (show some _ = some o from ho)
                    have hg : bx.tmps.getD 31 undef = .bool true := hJ.m 1 (by decide) (hrd ⟨1, .guard⟩ (by simp) rfl)
                    refine ite_no ((wanted_of rfl rfl rfl hg).trans rfl) ?_
                    exact hK undef _ (hJ.pure (by decide +kernel) 3 (by decide) (by decide) (by decide) rfl)
                  · cases (show some _ = some o from ho)
                    have hg : bx.tmps.getD 31 undef = .bool true := hJ.m 1 (by decide) (hrd ⟨1, .guard⟩ (by simp) rfl)
                    refine ite_no ((wanted_of rfl rfl rfl hg).trans rfl) ?_
                    exact hK undef _ (hJ.pure (by decide +kernel) 4 (by decide) (by decide) (by decide) rfl)
                  · cases (show some _ = some o from ho)
                    have hg : bx.tmps.getD 31 undef = .bool true := hJ.m 1 (by decide) (hrd ⟨1, .guard⟩ (by simp) rfl)
                    refine ite_no ((wanted_of rfl rfl rfl hg).trans rfl) ?_
                    exact hK undef _ (hJ.pure (by decide +kernel) 5 (by decide) (by decide) (by decide) rfl)
                  · cases (show some _ = some o from ho)
                    have hg : bx.tmps.getD 31 undef = .bool true := hJ.m 1 (by decide) (hrd ⟨1, .guard⟩ (by simp) rfl)
                    refine ite_no ((wanted_of rfl rfl rfl hg).trans rfl) ?_
                    exact hK undef _ (hJ.pure (by decide +kernel) 6 (by decide) (by decide) (by decide) rfl)
                  · cases (show some _ = some o from ho)
                    have hg : bx.tmps.getD 31 undef = .bool true := hJ.m 1 (by decide) (hrd ⟨1, .guard⟩ (by simp) rfl)
                    refine ite_no ((wanted_of rfl rfl rfl hg).trans rfl) ?_
                    exact hK undef _ (hJ.pure (by decide +kernel) 7 (by decide) (by decide) (by decide) rfl)
                  · cases (show some _ = some o from ho)
                    have hg : bx.tmps.getD 31 undef = .bool true := hJ.m 1 (by decide) (hrd ⟨1, .guard⟩ (by simp) rfl)
                    refine ite_no ((wanted_of rfl rfl rfl hg).trans rfl) ?_
                    exact hK undef _ (hJ.pure (by decide +kernel) 8 (by decide) (by decide) (by decide) rfl)
                  · cases (show some _ = some o from ho)
                    have hg : bx.tmps.getD 31 undef = .bool true := hJ.m 1 (by decide) (hrd ⟨1, .guard⟩ (by simp) rfl)
                    refine ite_no ((wanted_of rfl rfl rfl hg).trans rfl) ?_
                    exact hK undef _ (hJ.pure (by decide +kernel) 9 (by decide) (by decide) (by decide) rfl)
                  · cases (show some _ = some o from ho)
                    have hg : bx.tmps.getD 31 undef = .bool true := hJ.m 1 (by decide) (hrd ⟨1, .guard⟩ (by simp) rfl)
                    refine ite_no ((wanted_of rfl rfl rfl hg).trans rfl) ?_
                    exact hK undef _ (hJ.pure (by decide +kernel) 10 (by decide) (by decide) (by decide) rfl)
                  · cases (show some _ = some o from ho)
                    have hg : bx.tmps.getD 31 undef = .bool true := hJ.m 1 (by decide) (hrd ⟨1, .guard⟩ (by simp) rfl)
                    refine ite_no ((wanted_of rfl rfl rfl hg).trans rfl) ?_
                    exact hK undef _ (hJ.pure (by decide +kernel) 11 (by decide) (by decide) (by decide) rfl)
                  · cases (show some _ = some o from ho)
                    refine ite_yes (by rfl) ?_
                    have h31 : bx.tmps.getD 31 undef = .bool true := hJ.m 1 (by decide) (hrd ⟨1, .data⟩ (by simp) rfl)
                    have f31 := getD_opt h31
                    have h41 : bx.tmps.getD 41 undef = undef := hJ.m 11 (by decide) (hrd ⟨11, .data⟩ (by simp) rfl)
                    have HK := Lib.hid hK
                    have HJ := Lib.hid hJ
                    clear hK hJ hcl hrd hfr hsz ho
                    go_simp
                    exact HK.out _ _ (HJ.out.pure (by decide +kernel) 12 (by decide) (by decide) (by decide) rfl)
                  · cases (show some _ = some o from ho)
                    refine ite_yes (by rfl) ?_
                    have h42 : bx.tmps.getD 42 undef = .bool true := hJ.m 12 (by decide) (hrd ⟨12, .data⟩ (by simp) rfl)
                    have f42 := getD_opt h42
                    have HK := Lib.hid hK
                    have HJ := Lib.hid hJ
                    clear hK hJ hcl hrd hfr hsz ho
                    go_simp
                    exact HK.out _ _ (HJ.out.pure (by decide +kernel) 13 (by decide) (by decide) (by decide) rfl)
                · intro f bx wb hall hsz hdf hfr hJ
                  have HBW := Lib.hid hJ.below
                  obtain ⟨tm, df⟩ := bx
                  obtain rfl : df = [] := hdf
                  have q0 : tm.getD 0 undef = .slice (some ⟨b, off, none⟩) n c := hfr 0 (noDst_of (by kernel_rfl))
                  have q1 : tm.getD 1 undef = .slice (some ⟨b2, off2, none⟩) m d := hfr 1 (noDst_of (by kernel_rfl))
                  have q2 : tm.getD 2 undef = undef := hfr 2 (noDst_of (by kernel_rfl))
                  have q3 : tm.getD 3 undef = undef := hfr 3 (noDst_of (by kernel_rfl))
                  have q4 : tm.getD 4 undef = .slice none 0 0 := hfr 4 (noDst_of (by kernel_rfl))
                  have q5 : tm.getD 5 undef = u5 := hfr 5 (noDst_of (by kernel_rfl))
                  have q6 : tm.getD 6 undef = .int .i64 k := hfr 6 (noDst_of (by kernel_rfl))
                  have q8 : tm.getD 8 undef = .int .i64 i := hfr 8 (noDst_of (by kernel_rfl))
                  have q9 : tm.getD 9 undef = .slice (some ⟨w.heap.size, 0, none⟩) 0 0 := hfr 9 (noDst_of (by kernel_rfl))
                  have q10 : tm.getD 10 undef = .int .i64 k := hfr 10 (noDst_of (by kernel_rfl))
                  have q11 : tm.getD 11 undef = .slice (some ⟨b2, off2, none⟩) m d := hfr 11 (noDst_of (by kernel_rfl))
                  have q12 : tm.getD 12 undef = .int .i64 m := hfr 12 (noDst_of (by kernel_rfl))
                  have q13 : tm.getD 13 undef = .bool true := hfr 13 (noDst_of (by kernel_rfl))
                  have q14 : tm.getD 14 undef = .bool true := hfr 14 (noDst_of (by kernel_rfl))
                  have q15 : tm.getD 15 undef = .slice (some ⟨b, off, none⟩) n c := hfr 15 (noDst_of (by kernel_rfl))
                  have q16 : tm.getD 16 undef = .bool true := hfr 16 (noDst_of (by kernel_rfl))
                  have q17 : tm.getD 17 undef = .bool true := hfr 17 (noDst_of (by kernel_rfl))
                  have q18 : tm.getD 18 undef = .bool true := hfr 18 (noDst_of (by kernel_rfl))
                  have q19 : tm.getD 19 undef = .slice (some ⟨b2, off2, none⟩) m d := hfr 19 (noDst_of (by kernel_rfl))
                  have q20 : tm.getD 20 undef = .bool true := hfr 20 (noDst_of (by kernel_rfl))
                  have q21 : tm.getD 21 undef = .bool true := hfr 21 (noDst_of (by kernel_rfl))
                  have q22 : tm.getD 22 undef = u22 := hfr 22 (noDst_of (by kernel_rfl))
                  have q23 : tm.getD 23 undef = u23 := hfr 23 (noDst_of (by kernel_rfl))
                  have q43 : tm.getD 43 undef = u43 := hfr 43 (noDst_of (by kernel_rfl))
                  have q44 : tm.getD 44 undef = u44 := hfr 44 (noDst_of (by kernel_rfl))
                  have q45 : tm.getD 45 undef = u45 := hfr 45 (noDst_of (by kernel_rfl))
                  have q46 : tm.getD 46 undef = u46 := hfr 46 (noDst_of (by kernel_rfl))
                  have q47 : tm.getD 47 undef = u47 := hfr 47 (noDst_of (by kernel_rfl))
                  have q48 : tm.getD 48 undef = u48 := hfr 48 (noDst_of (by kernel_rfl))
                  have q49 : tm.getD 49 undef = u49 := hfr 49 (noDst_of (by kernel_rfl))
                  have q50 : tm.getD 50 undef = u50 := hfr 50 (noDst_of (by kernel_rfl))
                  have q51 : tm.getD 51 undef = u51 := hfr 51 (noDst_of (by kernel_rfl))
                  have q52 : tm.getD 52 undef = undef := hfr 52 (noDst_of (by kernel_rfl))
                  have q7 : tm.getD 7 undef = .bool true := hJ.m 13 (by decide) (hall 13 (by decide))
                  have q := lit_of tm 53 hsz
                  simp only [List.range, List.range.loop, List.map, q0, q1, q2, q3, q4, q5, q6, q8, q9, q10, q11, q12, q13, q14, q15, q16, q17, q18, q19, q20, q21, q22, q23, q43, q44, q45, q46, q47, q48, q49, q50, q51, q52, q7] at q
                  have HQ := Lib.hid q
                  clear q hsz hfr hJ hall q0 q1 q2 q3 q4 q5 q6 q8 q9 q10 q11 q12 q13 q14 q15 q16 q17 q18 q19 q20 q21 q22 q23 q43 q44 q45 q46 q47 q48 q49 q50 q51 q52 q7
                  rw [HQ.out]
                  generalize tm.getD 24 undef = x24
                  generalize tm.getD 25 undef = x25
                  generalize tm.getD 26 undef = x26
                  generalize tm.getD 27 undef = x27
                  generalize tm.getD 28 undef = x28
                  generalize tm.getD 29 undef = x29
                  generalize tm.getD 30 undef = x30
                  generalize tm.getD 31 undef = x31
                  generalize tm.getD 32 undef = x32
                  generalize tm.getD 33 undef = x33
                  generalize tm.getD 34 undef = x34
                  generalize tm.getD 35 undef = x35
                  generalize tm.getD 36 undef = x36
                  generalize tm.getD 37 undef = x37
                  generalize tm.getD 38 undef = x38
                  generalize tm.getD 39 undef = x39
                  generalize tm.getD 40 undef = x40
                  generalize tm.getD 41 undef = x41
                  generalize tm.getD 42 undef = x42
                  clear HQ
                  have HB3 := Lib.hid (belB HB.out HB.out.size HBW.out)
                  have HO3 := Lib.hid (own_below HO.out HBW.out)
                  clear HBW
                  go_wp2_with fail
                  go_roundw
                  case rel => exact ⟨i + 1, by omega, by go_num, by rw [HAS.out]; simp, HO3.out, HB3.out⟩
                  case measure => simp [intOf]; omega
            · obtain rfl : i = n := by omega
              have HAE : Hid (apB l y.b i = ahB l y.b) := Lib.hid (by rw [← HLL.out]; exact apB_end l y.b)
              obtain ⟨b2', off2', y', eB, hbl2, hy, hd0, hd1⟩ := (H2.out.below HB.out).ha hlt
              injection eB with eB; injection eB with e1 e2
              subst e1; subst e2
              rw [HY.out] at hy; injection hy with hy; subst hy
              rw [HAE.out]
              cases hq : ahB l y.b
              · have HK := Lib.hid (kfK_yes HY.out hq)
                go_wp2_with (first
                  | (at_builtin
                     refine wpList_append1 _ rfl _ _ 56 rfl w.heap.size 43 i0 (.agg #[.string ⟨#[]⟩, .string ⟨#[]⟩]) 2 32 Try.underlying56 HI.out HZ0.out HZ1.out HZ2.out rfl (by decide) [.string y.a, .string y.b] rfl (by intro u hu; simp at hu; rcases hu with rfl | rfl <;> rfl) _ (kfK l f k).length (has (kfK l f k)) _ _ HO.out rfl rfl _ rfl rfl (by simp only [maxLen]; omega) (by omega) HB.out.size ?_
                     intro v' w5 ho5 hg5
                     have HB5 := Lib.hid (below_grown HB.out hg5 HO.out (Nat.le_refl _) HB.out.size)
                     have HO5 : Hid (w5.ownsRow w.heap.size 43 2 v' (kfK l f (k + 1)).length (has (kfK l f (k + 1)))) := Lib.hid (by rw [HK.out, has_app, has_one, List.length_append]; exact ho5)
                     clear ho5 hg5))
                go_roundw
                case rel => exact ⟨k + 1, by omega, by go_num, HO5.out, HB5.out, fun h => absurd h (by simp [HV.out, hf])⟩
                case measure => simp [intOf]; omega
              · have HK := Lib.hid (kfK_no HY.out hq)
                go_wp2_with fail
                go_roundw
                case rel => exact ⟨k + 1, by omega, by go_num, by rw [HK.out]; exact HO.out, HB.out, fun h => absurd h (by simp [HV.out, hf])⟩
                case measure => simp [intOf]; omega
    · obtain rfl : k = m := by omega
      have HE : Hid (R = kfK l f k) := Lib.hid (by
        rw [← HR.out]
        cases hv : bvB l
        · rw [kfL_no (.inl hv), HV0.out (.inl hv), kfK_0]
        · cases hf : fvB f
          · rw [kfL_no (.inr hf), HV0.out (.inr hf), kfK_0]
          · rw [kfL_yes hv hf, HL2.out])
      go_wp2_with fail
      go_ret
      exact ⟨_, rfl, by rw [HE.out]; exact HO.out, HB.out⟩
end Go.Proofs.Ytajfglcoigklnaa
