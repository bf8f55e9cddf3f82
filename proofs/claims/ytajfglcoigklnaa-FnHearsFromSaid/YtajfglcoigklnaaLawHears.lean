/-
  The walk of the law of HearsFrom.
-/
import Derived.Test.YtajfglcoigklnaaDrawAct
import Derived.Test.YtajfglcoigklnaaHears2
import Derived.Test.YtajfglcoigklnaaTab
namespace Go.Proofs.Ytajfglcoigklnaa
open Go.ChangeShapes Go.WideShapes Go.ChangeAt Go.RowKit Go.Joins
set_option linter.unusedVariables false

theorem smb_max {l : List Bl} (h : ∀ z ∈ l, z.a.size ≤ 9) : ∀ z ∈ l, z.a.size ≤ maxLen := fun z hz => by have := h z hz; simp only [maxLen]; omega
set_option maxRecDepth 100000 in
set_option maxHeartbeats 8000000 in
theorem walkHearsFrom (a : Option Addr) (len cap : Nat) (zs : List Int) (w : World) (h : IsCode w a len cap zs) :
    Calls Try.prog 7 #[.slice a len cap] w fun e w' => e = .returned (.bool true) ∧ Below w.heap.size w w' := by
  obtain ⟨hl, hm⟩ := code_len h
  unfold maxLen at hm
  have H := Lib.hid h; clear h
  by_cases hb : (1048576 : Int) < (len : Int)
  · go_enter Try.func7, Try.ntmps7
    go_wp2
    go_ret
    exact ⟨rfl, Below.refl _ _⟩
  · go_enter Try.func7, Try.ntmps7
    go_wp2_with fail
    refine (dhf_any _ _ _ _ _ _ H.out (Below.refl _ _)).mono ?_
    rintro e x1 ⟨v, n, l, ac, rfl, hn, ho, hs, hz, hb1⟩
    obtain ⟨A, c, rfl, hnc, hcm, _⟩ := own_form ho
    have HO1 := Lib.hid ho; have HS := Lib.hid (smb_max hs); have HB1 := Lib.hid hb1; have HNC := Lib.hid hnc; have HCM := Lib.hid hcm
    have HZ1 : Hid (ac.who.a.size ≤ maxLen) := Lib.hid (by have := hz.1; simp only [maxLen]; omega)
    have HZ2 : Hid (ac.who.b.size ≤ maxLen) := Lib.hid (by have := hz.2.1; simp only [maxLen]; omega)
    have HZ3 : Hid (ac.what.size ≤ maxLen) := Lib.hid (by have := hz.2.2; simp only [maxLen]; omega)
    clear ho hs hb1 hnc hcm hz
    generalize hr : hfB l ac = r
    have HR := Lib.hid hr; clear hr
    generalize hav' : acV ac = va
    have HVA := Lib.hid hav'; clear hav'
    have HNIL : Hid (hfB [] ac = va) := Lib.hid (by rw [hfB_nil]; exact HVA.out)
    have HDROP : Hid (r = true → hfB (l.drop 1) ac = true) := Lib.hid (fun h => hfB_drop (by rw [HR.out]; exact h))
    obtain ⟨ak, an, ⟨ax, ay⟩, at_⟩ := ac
    simp only at HZ1 HZ2 HZ3
    go_wp2_with fail
    have hk1 : Bk (x1.alloc (.cells #[.int .i64 ak, .int .i64 an, .string ax, .string ay, .string at_] 45)) x1.heap.size 45 #[.int .i64 ak, .int .i64 an, .string ax, .string ay, .string at_] := Bk.new x1 _ _
    have HO2 := Lib.hid (HO1.out.alloc (.cells #[.int .i64 ak, .int .i64 an, .string ax, .string ay, .string at_] 45))
    have HB2 : Hid (Below w.heap.size w (x1.alloc (.cells #[.int .i64 ak, .int .i64 an, .string ax, .string ay, .string at_] 45))) := Lib.hid (HB1.out.alloc HB1.out.size _)
    generalize x1.alloc (.cells #[.int .i64 ak, .int .i64 an, .string ax, .string ay, .string at_] 45) = x2 at *
    generalize x1.heap.size = gz at *
    have HK2 := Lib.hid hk1
    clear hk1 HO1 HB1
    refine (ihf_any A n c l ⟨ak, an, ⟨ax, ay⟩, at_⟩ x2 (rd_own HO2.out) HNC.out HCM.out HS.out HZ1.out HZ2.out HZ3.out).mono ?_
    rw [HR.out]
    rintro e x3 ⟨rfl, hb3⟩
    have HO3 := Lib.hid (own_below HO2.out hb3); have HB3 := Lib.hid (belB HB2.out HB2.out.size hb3); have HK3 := Lib.hid (HK2.out.keep hb3)
    clear hb3 HO2 HB2 HK2
    have k0 := HK3.out.cell 0 (v := .int .i64 ak) rfl
    have k1 := HK3.out.cell 1 (v := .int .i64 an) rfl
    have k2 := HK3.out.cell 2 (v := .string ax) rfl
    have k3 := HK3.out.cell 3 (v := .string ay) rfl
    have k4 := HK3.out.cell 4 (v := .string at_) rfl
    have kl := HK3.out.lt
    go_wp2_with fail
    refine (shf_any A n c l ⟨ak, an, ⟨ax, ay⟩, at_⟩ x3 (rd_own HO3.out) HNC.out HCM.out HS.out HZ1.out HZ2.out HZ3.out).mono ?_
    rw [HR.out]
    rintro e x4 ⟨rfl, hb4⟩
    have HO4 := Lib.hid (own_below HO3.out hb4); have HB4 := Lib.hid (belB HB3.out HB3.out.size hb4); have HK4 := Lib.hid (HK3.out.keep hb4)
    clear hb4 HO3 HB3 HK3 k0 k1 k2 k3 k4 kl
    have k0 := HK4.out.cell 0 (v := .int .i64 ak) rfl
    have k1 := HK4.out.cell 1 (v := .int .i64 an) rfl
    have k2 := HK4.out.cell 2 (v := .string ax) rfl
    have k3 := HK4.out.cell 3 (v := .string ay) rfl
    have k4 := HK4.out.cell 4 (v := .string at_) rfl
    have kl := HK4.out.lt
    go_wp2_with fail
    -- REGION 7
    refine wp_region_inv' (TabJ 5 (fun j => [22, 23, 24, 25, 26].getD j 0) (fun j v => match j with
      | 0 => v = .agg #[.int .i64 ak, .int .i64 an, .string ax, .string ay, .string at_]
      | 1 => v = .bool va
      | 2 => v = .agg #[.int .i64 ak, .int .i64 an, .string ax, .string ay, .string at_]
      | 3 => v = .bool va
      | 4 => v = .bool false
      | _ => True) 12 (undef) 12 13 0 #[] #[] x4) (by kernel_rfl) (regOkI_of (by kernel_rfl)) (TabJ.start (by intro h; exact absurd h (by decide))) ?_ ?_
    · intro i o f bx wb ho hf hrd hcl hsz hfr hJ K hK
      have hi := (Array.getElem?_eq_some_iff.1 ho).1
      simp only [List.size_toArray, List.length_cons, List.length_nil] at hi
      have hcases : i = 0 ∨ i = 1 ∨ i = 2 ∨ i = 3 ∨ i = 4 := by omega
      have hB := hJ.below.size
      rcases hcases with rfl | rfl | rfl | rfl | rfl
      · cases (show some _ = some o from ho)
        refine ite_yes (by rfl) ?_
        have h4 : bx.tmps.getD 4 undef = .pointer (some ⟨gz, 0, none⟩) := hfr 4 (noDst_of (by kernel_rfl))
        have f4 := getD_opt h4
        have d0 := (hJ.below.cell (p := ⟨gz, 0, none⟩) kl).trans k0
        have d1 := (hJ.below.cell (p := ⟨gz, 1, none⟩) kl).trans k1
        have d2 := (hJ.below.cell (p := ⟨gz, 2, none⟩) kl).trans k2
        have d3 := (hJ.below.cell (p := ⟨gz, 3, none⟩) kl).trans k3
        have d4 := (hJ.below.cell (p := ⟨gz, 4, none⟩) kl).trans k4
        have HK := Lib.hid hK
        have HJ := Lib.hid hJ
        clear hK hJ hcl hrd hfr hsz ho
        go_simp
        exact HK.out _ _ (HJ.out.pure (by decide +kernel) 0 (by decide) (by decide) (by decide) rfl)
      · cases (show some _ = some o from ho)
        refine ite_yes (by rfl) ?_
        have h22 : bx.tmps.getD 22 undef = .agg #[.int .i64 ak, .int .i64 an, .string ax, .string ay, .string at_] := hJ.m 0 (by decide) (hrd ⟨0, .data⟩ (by simp) rfl)
        have f22 := getD_opt h22
        have HK := Lib.hid hK
        have HJ := Lib.hid hJ
        clear hK hJ hcl hrd hfr hsz ho
        go_simp
        refine (ihf_any none 0 0 [] ⟨ak, an, ⟨ax, ay⟩, at_⟩ wb Rd.none_ (Nat.le_refl _) (by simp [maxLen]) (by simp) HZ1.out HZ2.out HZ3.out).mono ?_
        rw [HNIL.out]
        rintro e w' ⟨rfl, hb⟩
        exact HK.out _ _ (HJ.out.step (by decide +kernel) 1 (by decide) (by decide) (by decide) (hb) rfl)
      · cases (show some _ = some o from ho)
        refine ite_yes (by rfl) ?_
        have h4 : bx.tmps.getD 4 undef = .pointer (some ⟨gz, 0, none⟩) := hfr 4 (noDst_of (by kernel_rfl))
        have f4 := getD_opt h4
        have d0 := (hJ.below.cell (p := ⟨gz, 0, none⟩) kl).trans k0
        have d1 := (hJ.below.cell (p := ⟨gz, 1, none⟩) kl).trans k1
        have d2 := (hJ.below.cell (p := ⟨gz, 2, none⟩) kl).trans k2
        have d3 := (hJ.below.cell (p := ⟨gz, 3, none⟩) kl).trans k3
        have d4 := (hJ.below.cell (p := ⟨gz, 4, none⟩) kl).trans k4
        have HK := Lib.hid hK
        have HJ := Lib.hid hJ
        clear hK hJ hcl hrd hfr hsz ho
        go_simp
        exact HK.out _ _ (HJ.out.pure (by decide +kernel) 2 (by decide) (by decide) (by decide) rfl)
      · cases (show some _ = some o from ho)
        refine ite_yes (by rfl) ?_
        have h24 : bx.tmps.getD 24 undef = .agg #[.int .i64 ak, .int .i64 an, .string ax, .string ay, .string at_] := hJ.m 2 (by decide) (hrd ⟨2, .data⟩ (by simp) rfl)
        have f24 := getD_opt h24
        have HK := Lib.hid hK
        have HJ := Lib.hid hJ
        clear hK hJ hcl hrd hfr hsz ho
        go_simp
        refine (av_impl ⟨ak, an, ⟨ax, ay⟩, at_⟩ wb HZ1.out HZ2.out HZ3.out).mono ?_
        rw [HVA.out]
        rintro e w' ⟨rfl, hb⟩
        exact HK.out _ _ (HJ.out.step (by decide +kernel) 3 (by decide) (by decide) (by decide) (hb) rfl)
      · cases (show some _ = some o from ho)
        refine ite_yes (by rfl) ?_
        have h23 : bx.tmps.getD 23 undef = .bool va := hJ.m 1 (by decide) (hrd ⟨1, .data⟩ (by simp) rfl)
        have f23 := getD_opt h23
        have h25 : bx.tmps.getD 25 undef = .bool va := hJ.m 3 (by decide) (hrd ⟨3, .data⟩ (by simp) rfl)
        have f25 := getD_opt h25
        have HK := Lib.hid hK
        have HJ := Lib.hid hJ
        clear hK hJ hcl hrd hfr hsz ho
        go_simp
        exact HK.out _ _ (HJ.out.pure (by decide +kernel) 4 (by decide) (by decide) (by decide) rfl)
    · intro f bx wb hall hsz hdf hfr hJ
      have HBW := Lib.hid hJ.below
      obtain ⟨tm, df⟩ := bx
      obtain rfl : df = [] := hdf
      have q3 : tm.getD 3 undef = .slice A n c := hfr 3 (noDst_of (by kernel_rfl))
      have q4 : tm.getD 4 undef = .pointer (some ⟨gz, 0, none⟩) := hfr 4 (noDst_of (by kernel_rfl))
      have q5 : tm.getD 5 undef = .bool r := hfr 5 (noDst_of (by kernel_rfl))
      have q26 : tm.getD 26 undef = .bool false := hJ.m 4 (by decide) (hall 4 (by decide))
      have q := lit_of tm 43 hsz
      simp only [List.range, List.range.loop, List.map, q3, q4, q5, q26] at q
      have HQ := Lib.hid q
      clear q hsz hfr hJ hall q3 q4 q5 q26
      rw [HQ.out]
      generalize tm.getD 0 undef = x0
      generalize tm.getD 1 undef = x1
      generalize tm.getD 2 undef = x2
      generalize tm.getD 6 undef = x6
      generalize tm.getD 7 undef = x7
      generalize tm.getD 8 undef = x8
      generalize tm.getD 9 undef = x9
      generalize tm.getD 10 undef = x10
      generalize tm.getD 11 undef = x11
      generalize tm.getD 12 undef = x12
      generalize tm.getD 13 undef = x13
      generalize tm.getD 14 undef = x14
      generalize tm.getD 15 undef = x15
      generalize tm.getD 16 undef = x16
      generalize tm.getD 17 undef = x17
      generalize tm.getD 18 undef = x18
      generalize tm.getD 19 undef = x19
      generalize tm.getD 20 undef = x20
      generalize tm.getD 21 undef = x21
      generalize tm.getD 22 undef = x22
      generalize tm.getD 23 undef = x23
      generalize tm.getD 24 undef = x24
      generalize tm.getD 25 undef = x25
      generalize tm.getD 27 undef = x27
      generalize tm.getD 28 undef = x28
      generalize tm.getD 29 undef = x29
      generalize tm.getD 30 undef = x30
      generalize tm.getD 31 undef = x31
      generalize tm.getD 32 undef = x32
      generalize tm.getD 33 undef = x33
      generalize tm.getD 34 undef = x34
      generalize tm.getD 35 undef = x35
      generalize tm.getD 36 undef = x36
      generalize tm.getD 37 undef = x37
      generalize tm.getD 38 undef = x38
      generalize tm.getD 39 undef = x39
      generalize tm.getD 40 undef = x40
      generalize tm.getD 41 undef = x41
      generalize tm.getD 42 undef = x42
      clear HQ
      obtain ⟨x5, rfl⟩ : ∃ x5 : World, x5 = wb := ⟨_, rfl⟩
      have HO5 := Lib.hid (own_below HO4.out HBW.out)
      have HB5 := Lib.hid (belB HB4.out HB4.out.size HBW.out)
      have HK5 := Lib.hid (HK4.out.keep HBW.out)
      clear HBW HO4 HB4 HK4 k0 k1 k2 k3 k4 kl
      have e0 := HK5.out.cell 0 (v := .int .i64 ak) rfl
      have e1 := HK5.out.cell 1 (v := .int .i64 an) rfl
      have e2 := HK5.out.cell 2 (v := .string ax) rfl
      have e3 := HK5.out.cell 3 (v := .string ay) rfl
      have e4 := HK5.out.cell 4 (v := .string at_) rfl
      have kl5 := HK5.out.lt
      cases r
      · go_wp2_with fail
        refine wp_region_inv' (TabJ 17 (fun j => [27, 28, 29, 30, 31, 32, 33, 34, 35, 36, 37, 38, 39, 40, 41, 42, 2].getD j 0) (fun j v => match j with
          | 0 => v = .bool false
          | 1 => v = .bool true
          | 2 => v = .bool true
          | 3 => v = undef
          | 4 => v = undef
          | 5 => v = undef
          | 6 => v = .bool true
          | 7 => v = .bool true
          | 8 => v = undef
          | 9 => v = undef
          | 10 => v = undef
          | 11 => v = undef
          | 12 => v = .bool true
          | 13 => v = .bool true
          | 14 => v = .bool true
          | 15 => v = .bool true
          | 16 => v = .bool true
          | _ => True) 24 (undef) 24 25 0 #[] #[] x5) (by kernel_rfl) (regOkI_of (by kernel_rfl)) (TabJ.start (by intro h; exact absurd h (by decide))) ?_ ?_
        · intro i o f bx wb ho hf hrd hcl hsz hfr hJ K hK
          have hi := (Array.getElem?_eq_some_iff.1 ho).1
          simp only [List.size_toArray, List.length_cons, List.length_nil] at hi
          have hcases : i = 0 ∨ i = 1 ∨ i = 2 ∨ i = 3 ∨ i = 4 ∨ i = 5 ∨ i = 6 ∨ i = 7 ∨ i = 8 ∨ i = 9 ∨ i = 10 ∨ i = 11 ∨ i = 12 ∨ i = 13 ∨ i = 14 ∨ i = 15 ∨ i = 16 := by omega
          have hB := hJ.below.size
          rcases hcases with rfl | rfl | rfl | rfl | rfl | rfl | rfl | rfl | rfl | rfl | rfl | rfl | rfl | rfl | rfl | rfl | rfl
          · cases (show some _ = some o from ho)
            refine ite_yes (by rfl) ?_
            have h5 : bx.tmps.getD 5 undef = .bool false := hfr 5 (noDst_of (by kernel_rfl))
            have f5 := getD_opt h5
            have HK := Lib.hid hK
            have HJ := Lib.hid hJ
            clear hK hJ hcl hrd hfr hsz ho
            go_simp
            exact HK.out _ _ (HJ.out.pure (by decide +kernel) 0 (by decide) (by decide) (by decide) rfl)
          · cases (show some _ = some o from ho)
            refine ite_yes (by rfl) ?_
            have h27 : bx.tmps.getD 27 undef = .bool false := hJ.m 0 (by decide) (hrd ⟨0, .data⟩ (by simp) rfl)
            have f27 := getD_opt h27
            have HK := Lib.hid hK
            have HJ := Lib.hid hJ
            clear hK hJ hcl hrd hfr hsz ho
            go_simp
            exact HK.out _ _ (HJ.out.pure (by decide +kernel) 1 (by decide) (by decide) (by decide) rfl)
          · cases (show some _ = some o from ho)
            refine ite_yes (by rfl) ?_
            have h28 : bx.tmps.getD 28 undef = .bool true := hJ.m 1 (by decide) (hrd ⟨1, .data⟩ (by simp) rfl)
            have f28 := getD_opt h28
            have HK := Lib.hid hK
            have HJ := Lib.hid hJ
            clear hK hJ hcl hrd hfr hsz ho
            go_simp
            exact HK.out _ _ (HJ.out.pure (by decide +kernel) 2 (by decide) (by decide) (by decide) rfl)
          · cases (show some _ = some o from ho)
            have hg : bx.tmps.getD 29 undef = .bool true := hJ.m 2 (by decide) (hrd ⟨2, .guard⟩ (by simp) rfl)
            refine ite_no ((wanted_of rfl rfl rfl hg).trans rfl) ?_
            exact hK undef _ (hJ.pure (by decide +kernel) 3 (by decide) (by decide) (by decide) rfl)
          · cases (show some _ = some o from ho)
            have hg : bx.tmps.getD 29 undef = .bool true := hJ.m 2 (by decide) (hrd ⟨2, .guard⟩ (by simp) rfl)
            refine ite_no ((wanted_of rfl rfl rfl hg).trans rfl) ?_
            exact hK undef _ (hJ.pure (by decide +kernel) 4 (by decide) (by decide) (by decide) rfl)
          · cases (show some _ = some o from ho)
            have hg : bx.tmps.getD 29 undef = .bool true := hJ.m 2 (by decide) (hrd ⟨2, .guard⟩ (by simp) rfl)
            refine ite_no ((wanted_of rfl rfl rfl hg).trans rfl) ?_
            exact hK undef _ (hJ.pure (by decide +kernel) 5 (by decide) (by decide) (by decide) rfl)
          · cases (show some _ = some o from ho)
            refine ite_yes (by rfl) ?_
            have h29 : bx.tmps.getD 29 undef = .bool true := hJ.m 2 (by decide) (hrd ⟨2, .data⟩ (by simp) rfl)
            have f29 := getD_opt h29
            have h32 : bx.tmps.getD 32 undef = undef := hJ.m 5 (by decide) (hrd ⟨5, .data⟩ (by simp) rfl)
            have HK := Lib.hid hK
            have HJ := Lib.hid hJ
            clear hK hJ hcl hrd hfr hsz ho
            go_simp
            exact HK.out _ _ (HJ.out.pure (by decide +kernel) 6 (by decide) (by decide) (by decide) rfl)
          · cases (show some _ = some o from ho)
            refine ite_yes (by rfl) ?_
            have h33 : bx.tmps.getD 33 undef = .bool true := hJ.m 6 (by decide) (hrd ⟨6, .data⟩ (by simp) rfl)
            have f33 := getD_opt h33
            have HK := Lib.hid hK
            have HJ := Lib.hid hJ
            clear hK hJ hcl hrd hfr hsz ho
            go_simp
            exact HK.out _ _ (HJ.out.pure (by decide +kernel) 7 (by decide) (by decide) (by decide) rfl)
          · cases (show some _ = some o from ho)
            have hg : bx.tmps.getD 34 undef = .bool true := hJ.m 7 (by decide) (hrd ⟨7, .guard⟩ (by simp) rfl)
            refine ite_no ((wanted_of rfl rfl rfl hg).trans rfl) ?_
            exact hK undef _ (hJ.pure (by decide +kernel) 8 (by decide) (by decide) (by decide) rfl)
          · cases (show some _ = some o from ho)
            have hg : bx.tmps.getD 34 undef = .bool true := hJ.m 7 (by decide) (hrd ⟨7, .guard⟩ (by simp) rfl)
            refine ite_no ((wanted_of rfl rfl rfl hg).trans rfl) ?_
            exact hK undef _ (hJ.pure (by decide +kernel) 9 (by decide) (by decide) (by decide) rfl)
          · cases (show some _ = some o from ho)
            have hg : bx.tmps.getD 34 undef = .bool true := hJ.m 7 (by decide) (hrd ⟨7, .guard⟩ (by simp) rfl)
            refine ite_no ((wanted_of rfl rfl rfl hg).trans rfl) ?_
            exact hK undef _ (hJ.pure (by decide +kernel) 10 (by decide) (by decide) (by decide) rfl)
          · cases (show some _ = some o from ho)
            have hg : bx.tmps.getD 34 undef = .bool true := hJ.m 7 (by decide) (hrd ⟨7, .guard⟩ (by simp) rfl)
            refine ite_no ((wanted_of rfl rfl rfl hg).trans rfl) ?_
            exact hK undef _ (hJ.pure (by decide +kernel) 11 (by decide) (by decide) (by decide) rfl)
          · cases (show some _ = some o from ho)
            refine ite_yes (by rfl) ?_
            have h34 : bx.tmps.getD 34 undef = .bool true := hJ.m 7 (by decide) (hrd ⟨7, .data⟩ (by simp) rfl)
            have f34 := getD_opt h34
            have h38 : bx.tmps.getD 38 undef = undef := hJ.m 11 (by decide) (hrd ⟨11, .data⟩ (by simp) rfl)
            have HK := Lib.hid hK
            have HJ := Lib.hid hJ
            clear hK hJ hcl hrd hfr hsz ho
            go_simp
            exact HK.out _ _ (HJ.out.pure (by decide +kernel) 12 (by decide) (by decide) (by decide) rfl)
          · cases (show some _ = some o from ho)
            refine ite_yes (by rfl) ?_
            have h39 : bx.tmps.getD 39 undef = .bool true := hJ.m 12 (by decide) (hrd ⟨12, .data⟩ (by simp) rfl)
            have f39 := getD_opt h39
            have HK := Lib.hid hK
            have HJ := Lib.hid hJ
            clear hK hJ hcl hrd hfr hsz ho
            go_simp
            exact HK.out _ _ (HJ.out.pure (by decide +kernel) 13 (by decide) (by decide) (by decide) rfl)
          · cases (show some _ = some o from ho)
            have hg : bx.tmps.getD 40 undef = .bool true := hJ.m 13 (by decide) (hrd ⟨13, .guard⟩ (by simp) rfl)
            refine ite_yes ((wanted_of rfl rfl rfl hg).trans rfl) ?_
            have HK := Lib.hid hK
            have HJ := Lib.hid hJ
            clear hK hJ hcl hrd hfr hsz ho
            go_simp
            refine (alive_any _).mono ?_
            rintro e w' ⟨rfl, rfl⟩
            exact HK.out _ _ (HJ.out.step (by decide +kernel) 14 (by decide) (by decide) (by decide) (Below.refl _ _) rfl)
          · cases (show some _ = some o from ho)
            refine ite_yes (by rfl) ?_
            have h40 : bx.tmps.getD 40 undef = .bool true := hJ.m 13 (by decide) (hrd ⟨13, .data⟩ (by simp) rfl)
            have f40 := getD_opt h40
            have h41 : bx.tmps.getD 41 undef = .bool true := hJ.m 14 (by decide) (hrd ⟨14, .data⟩ (by simp) rfl)
            have f41 := getD_opt h41
            have HK := Lib.hid hK
            have HJ := Lib.hid hJ
            clear hK hJ hcl hrd hfr hsz ho
            go_simp
            exact HK.out _ _ (HJ.out.pure (by decide +kernel) 15 (by decide) (by decide) (by decide) rfl)
          · cases (show some _ = some o from ho)
            refine ite_yes (by rfl) ?_
            have h42 : bx.tmps.getD 42 undef = .bool true := hJ.m 15 (by decide) (hrd ⟨15, .data⟩ (by simp) rfl)
            have f42 := getD_opt h42
            have HK := Lib.hid hK
            have HJ := Lib.hid hJ
            clear hK hJ hcl hrd hfr hsz ho
            go_simp
            exact HK.out _ _ (HJ.out.pure (by decide +kernel) 16 (by decide) (by decide) (by decide) rfl)
        · intro f bx wb hall hsz hdf hfr hJ
          have HBW := Lib.hid hJ.below
          obtain ⟨tm, df⟩ := bx
          obtain rfl : df = [] := hdf
          have q2 : tm.getD 2 undef = .bool true := hJ.m 16 (by decide) (hall 16 (by decide))
          have q := lit_of tm 43 hsz
          simp only [List.range, List.range.loop, List.map, q2] at q
          have HQ := Lib.hid q
          clear q hsz hfr hJ hall q2
          rw [HQ.out]
          generalize tm.getD 0 undef = x0
          generalize tm.getD 1 undef = x1
          generalize tm.getD 3 undef = x3
          generalize tm.getD 4 undef = x4
          generalize tm.getD 5 undef = x5
          generalize tm.getD 6 undef = x6
          generalize tm.getD 7 undef = x7
          generalize tm.getD 8 undef = x8
          generalize tm.getD 9 undef = x9
          generalize tm.getD 10 undef = x10
          generalize tm.getD 11 undef = x11
          generalize tm.getD 12 undef = x12
          generalize tm.getD 13 undef = x13
          generalize tm.getD 14 undef = x14
          generalize tm.getD 15 undef = x15
          generalize tm.getD 16 undef = x16
          generalize tm.getD 17 undef = x17
          generalize tm.getD 18 undef = x18
          generalize tm.getD 19 undef = x19
          generalize tm.getD 20 undef = x20
          generalize tm.getD 21 undef = x21
          generalize tm.getD 22 undef = x22
          generalize tm.getD 23 undef = x23
          generalize tm.getD 24 undef = x24
          generalize tm.getD 25 undef = x25
          generalize tm.getD 26 undef = x26
          generalize tm.getD 27 undef = x27
          generalize tm.getD 28 undef = x28
          generalize tm.getD 29 undef = x29
          generalize tm.getD 30 undef = x30
          generalize tm.getD 31 undef = x31
          generalize tm.getD 32 undef = x32
          generalize tm.getD 33 undef = x33
          generalize tm.getD 34 undef = x34
          generalize tm.getD 35 undef = x35
          generalize tm.getD 36 undef = x36
          generalize tm.getD 37 undef = x37
          generalize tm.getD 38 undef = x38
          generalize tm.getD 39 undef = x39
          generalize tm.getD 40 undef = x40
          generalize tm.getD 41 undef = x41
          generalize tm.getD 42 undef = x42
          clear HQ
          have HBL := Lib.hid (belB HB5.out HB5.out.size HBW.out)
          clear HBW
          go_wp2_with fail
          go_ret
          exact ⟨rfl, HBL.out⟩
      · by_cases h0 : n = 0
        · have h0' : ((n : Int) == 0) = true := by simp [h0]
          clear h0
          go_wp2_with fail
          refine wp_region_inv' (TabJ 17 (fun j => [27, 28, 29, 30, 31, 32, 33, 34, 35, 36, 37, 38, 39, 40, 41, 42, 2].getD j 0) (fun j v => match j with
            | 0 => v = .bool true
            | 1 => v = .bool false
            | 2 => v = .bool false
            | 3 => v = .slice A n c
            | 4 => v = .int .i64 n
            | 5 => v = .bool true
            | 6 => v = .bool true
            | 7 => v = .bool true
            | 8 => v = undef
            | 9 => v = undef
            | 10 => v = undef
            | 11 => v = undef
            | 12 => v = .bool true
            | 13 => v = .bool true
            | 14 => v = .bool true
            | 15 => v = .bool true
            | 16 => v = .bool true
            | _ => True) 24 (undef) 24 25 0 #[] #[] x5) (by kernel_rfl) (regOkI_of (by kernel_rfl)) (TabJ.start (by intro h; exact absurd h (by decide))) ?_ ?_
          · intro i o f bx wb ho hf hrd hcl hsz hfr hJ K hK
            have hi := (Array.getElem?_eq_some_iff.1 ho).1
            simp only [List.size_toArray, List.length_cons, List.length_nil] at hi
            have hcases : i = 0 ∨ i = 1 ∨ i = 2 ∨ i = 3 ∨ i = 4 ∨ i = 5 ∨ i = 6 ∨ i = 7 ∨ i = 8 ∨ i = 9 ∨ i = 10 ∨ i = 11 ∨ i = 12 ∨ i = 13 ∨ i = 14 ∨ i = 15 ∨ i = 16 := by omega
            have hB := hJ.below.size
            rcases hcases with rfl | rfl | rfl | rfl | rfl | rfl | rfl | rfl | rfl | rfl | rfl | rfl | rfl | rfl | rfl | rfl | rfl
            · cases (show some _ = some o from ho)
              refine ite_yes (by rfl) ?_
              have h5 : bx.tmps.getD 5 undef = .bool true := hfr 5 (noDst_of (by kernel_rfl))
              have f5 := getD_opt h5
              have HK := Lib.hid hK
              have HJ := Lib.hid hJ
              clear hK hJ hcl hrd hfr hsz ho
              go_simp
              exact HK.out _ _ (HJ.out.pure (by decide +kernel) 0 (by decide) (by decide) (by decide) rfl)
            · cases (show some _ = some o from ho)
              refine ite_yes (by rfl) ?_
              have h27 : bx.tmps.getD 27 undef = .bool true := hJ.m 0 (by decide) (hrd ⟨0, .data⟩ (by simp) rfl)
              have f27 := getD_opt h27
              have HK := Lib.hid hK
              have HJ := Lib.hid hJ
              clear hK hJ hcl hrd hfr hsz ho
              go_simp
              exact HK.out _ _ (HJ.out.pure (by decide +kernel) 1 (by decide) (by decide) (by decide) rfl)
            · cases (show some _ = some o from ho)
              refine ite_yes (by rfl) ?_
              have h28 : bx.tmps.getD 28 undef = .bool false := hJ.m 1 (by decide) (hrd ⟨1, .data⟩ (by simp) rfl)
              have f28 := getD_opt h28
              have HK := Lib.hid hK
              have HJ := Lib.hid hJ
              clear hK hJ hcl hrd hfr hsz ho
              go_simp
              exact HK.out _ _ (HJ.out.pure (by decide +kernel) 2 (by decide) (by decide) (by decide) rfl)
            · cases (show some _ = some o from ho)
              have hg : bx.tmps.getD 29 undef = .bool false := hJ.m 2 (by decide) (hrd ⟨2, .guard⟩ (by simp) rfl)
              refine ite_yes ((wanted_of rfl rfl rfl hg).trans rfl) ?_
              have h3 : bx.tmps.getD 3 undef = .slice A n c := hfr 3 (noDst_of (by kernel_rfl))
              have f3 := getD_opt h3
              have HK := Lib.hid hK
              have HJ := Lib.hid hJ
              clear hK hJ hcl hrd hfr hsz ho
              go_simp
              exact HK.out _ _ (HJ.out.pure (by decide +kernel) 3 (by decide) (by decide) (by decide) rfl)
            · cases (show some _ = some o from ho)
              have hg : bx.tmps.getD 29 undef = .bool false := hJ.m 2 (by decide) (hrd ⟨2, .guard⟩ (by simp) rfl)
              refine ite_yes ((wanted_of rfl rfl rfl hg).trans rfl) ?_
              have h30 : bx.tmps.getD 30 undef = .slice A n c := hJ.m 3 (by decide) (hrd ⟨3, .data⟩ (by simp) rfl)
              have f30 := getD_opt h30
              have HK := Lib.hid hK
              have HJ := Lib.hid hJ
              clear hK hJ hcl hrd hfr hsz ho
              go_simp
              exact HK.out _ _ (HJ.out.pure (by decide +kernel) 4 (by decide) (by decide) (by decide) rfl)
            · cases (show some _ = some o from ho)
              have hg : bx.tmps.getD 29 undef = .bool false := hJ.m 2 (by decide) (hrd ⟨2, .guard⟩ (by simp) rfl)
              refine ite_yes ((wanted_of rfl rfl rfl hg).trans rfl) ?_
              have h31 : bx.tmps.getD 31 undef = .int .i64 n := hJ.m 4 (by decide) (hrd ⟨4, .data⟩ (by simp) rfl)
              have f31 := getD_opt h31
              have HK := Lib.hid hK
              have HJ := Lib.hid hJ
              clear hK hJ hcl hrd hfr hsz ho
              go_simp
              exact HK.out _ _ (HJ.out.pure (by decide +kernel) 5 (by decide) (by decide) (by decide) rfl)
            · cases (show some _ = some o from ho)
              refine ite_yes (by rfl) ?_
              have h29 : bx.tmps.getD 29 undef = .bool false := hJ.m 2 (by decide) (hrd ⟨2, .data⟩ (by simp) rfl)
              have f29 := getD_opt h29
              have h32 : bx.tmps.getD 32 undef = .bool true := hJ.m 5 (by decide) (hrd ⟨5, .data⟩ (by simp) rfl)
              have f32 := getD_opt h32
              have HK := Lib.hid hK
              have HJ := Lib.hid hJ
              clear hK hJ hcl hrd hfr hsz ho
              go_simp
              exact HK.out _ _ (HJ.out.pure (by decide +kernel) 6 (by decide) (by decide) (by decide) rfl)
            · cases (show some _ = some o from ho)
              refine ite_yes (by rfl) ?_
              have h33 : bx.tmps.getD 33 undef = .bool true := hJ.m 6 (by decide) (hrd ⟨6, .data⟩ (by simp) rfl)
              have f33 := getD_opt h33
              have HK := Lib.hid hK
              have HJ := Lib.hid hJ
              clear hK hJ hcl hrd hfr hsz ho
              go_simp
              exact HK.out _ _ (HJ.out.pure (by decide +kernel) 7 (by decide) (by decide) (by decide) rfl)
            · cases (show some _ = some o from ho)
              have hg : bx.tmps.getD 34 undef = .bool true := hJ.m 7 (by decide) (hrd ⟨7, .guard⟩ (by simp) rfl)
              refine ite_no ((wanted_of rfl rfl rfl hg).trans rfl) ?_
              exact hK undef _ (hJ.pure (by decide +kernel) 8 (by decide) (by decide) (by decide) rfl)
            · cases (show some _ = some o from ho)
              have hg : bx.tmps.getD 34 undef = .bool true := hJ.m 7 (by decide) (hrd ⟨7, .guard⟩ (by simp) rfl)
              refine ite_no ((wanted_of rfl rfl rfl hg).trans rfl) ?_
              exact hK undef _ (hJ.pure (by decide +kernel) 9 (by decide) (by decide) (by decide) rfl)
            · cases (show some _ = some o from ho)
              have hg : bx.tmps.getD 34 undef = .bool true := hJ.m 7 (by decide) (hrd ⟨7, .guard⟩ (by simp) rfl)
              refine ite_no ((wanted_of rfl rfl rfl hg).trans rfl) ?_
              exact hK undef _ (hJ.pure (by decide +kernel) 10 (by decide) (by decide) (by decide) rfl)
            · cases (show some _ = some o from ho)
              have hg : bx.tmps.getD 34 undef = .bool true := hJ.m 7 (by decide) (hrd ⟨7, .guard⟩ (by simp) rfl)
              refine ite_no ((wanted_of rfl rfl rfl hg).trans rfl) ?_
              exact hK undef _ (hJ.pure (by decide +kernel) 11 (by decide) (by decide) (by decide) rfl)
            · cases (show some _ = some o from ho)
              refine ite_yes (by rfl) ?_
              have h34 : bx.tmps.getD 34 undef = .bool true := hJ.m 7 (by decide) (hrd ⟨7, .data⟩ (by simp) rfl)
              have f34 := getD_opt h34
              have h38 : bx.tmps.getD 38 undef = undef := hJ.m 11 (by decide) (hrd ⟨11, .data⟩ (by simp) rfl)
              have HK := Lib.hid hK
              have HJ := Lib.hid hJ
              clear hK hJ hcl hrd hfr hsz ho
              go_simp
              exact HK.out _ _ (HJ.out.pure (by decide +kernel) 12 (by decide) (by decide) (by decide) rfl)
            · cases (show some _ = some o from ho)
              refine ite_yes (by rfl) ?_
              have h39 : bx.tmps.getD 39 undef = .bool true := hJ.m 12 (by decide) (hrd ⟨12, .data⟩ (by simp) rfl)
              have f39 := getD_opt h39
              have HK := Lib.hid hK
              have HJ := Lib.hid hJ
              clear hK hJ hcl hrd hfr hsz ho
              go_simp
              exact HK.out _ _ (HJ.out.pure (by decide +kernel) 13 (by decide) (by decide) (by decide) rfl)
            · cases (show some _ = some o from ho)
              have hg : bx.tmps.getD 40 undef = .bool true := hJ.m 13 (by decide) (hrd ⟨13, .guard⟩ (by simp) rfl)
              refine ite_yes ((wanted_of rfl rfl rfl hg).trans rfl) ?_
              have HK := Lib.hid hK
              have HJ := Lib.hid hJ
              clear hK hJ hcl hrd hfr hsz ho
              go_simp
              refine (alive_any _).mono ?_
              rintro e w' ⟨rfl, rfl⟩
              exact HK.out _ _ (HJ.out.step (by decide +kernel) 14 (by decide) (by decide) (by decide) (Below.refl _ _) rfl)
            · cases (show some _ = some o from ho)
              refine ite_yes (by rfl) ?_
              have h40 : bx.tmps.getD 40 undef = .bool true := hJ.m 13 (by decide) (hrd ⟨13, .data⟩ (by simp) rfl)
              have f40 := getD_opt h40
              have h41 : bx.tmps.getD 41 undef = .bool true := hJ.m 14 (by decide) (hrd ⟨14, .data⟩ (by simp) rfl)
              have f41 := getD_opt h41
              have HK := Lib.hid hK
              have HJ := Lib.hid hJ
              clear hK hJ hcl hrd hfr hsz ho
              go_simp
              exact HK.out _ _ (HJ.out.pure (by decide +kernel) 15 (by decide) (by decide) (by decide) rfl)
            · cases (show some _ = some o from ho)
              refine ite_yes (by rfl) ?_
              have h42 : bx.tmps.getD 42 undef = .bool true := hJ.m 15 (by decide) (hrd ⟨15, .data⟩ (by simp) rfl)
              have f42 := getD_opt h42
              have HK := Lib.hid hK
              have HJ := Lib.hid hJ
              clear hK hJ hcl hrd hfr hsz ho
              go_simp
              exact HK.out _ _ (HJ.out.pure (by decide +kernel) 16 (by decide) (by decide) (by decide) rfl)
          · intro f bx wb hall hsz hdf hfr hJ
            have HBW := Lib.hid hJ.below
            obtain ⟨tm, df⟩ := bx
            obtain rfl : df = [] := hdf
            have q2 : tm.getD 2 undef = .bool true := hJ.m 16 (by decide) (hall 16 (by decide))
            have q := lit_of tm 43 hsz
            simp only [List.range, List.range.loop, List.map, q2] at q
            have HQ := Lib.hid q
            clear q hsz hfr hJ hall q2
            rw [HQ.out]
            generalize tm.getD 0 undef = x0
            generalize tm.getD 1 undef = x1
            generalize tm.getD 3 undef = x3
            generalize tm.getD 4 undef = x4
            generalize tm.getD 5 undef = x5
            generalize tm.getD 6 undef = x6
            generalize tm.getD 7 undef = x7
            generalize tm.getD 8 undef = x8
            generalize tm.getD 9 undef = x9
            generalize tm.getD 10 undef = x10
            generalize tm.getD 11 undef = x11
            generalize tm.getD 12 undef = x12
            generalize tm.getD 13 undef = x13
            generalize tm.getD 14 undef = x14
            generalize tm.getD 15 undef = x15
            generalize tm.getD 16 undef = x16
            generalize tm.getD 17 undef = x17
            generalize tm.getD 18 undef = x18
            generalize tm.getD 19 undef = x19
            generalize tm.getD 20 undef = x20
            generalize tm.getD 21 undef = x21
            generalize tm.getD 22 undef = x22
            generalize tm.getD 23 undef = x23
            generalize tm.getD 24 undef = x24
            generalize tm.getD 25 undef = x25
            generalize tm.getD 26 undef = x26
            generalize tm.getD 27 undef = x27
            generalize tm.getD 28 undef = x28
            generalize tm.getD 29 undef = x29
            generalize tm.getD 30 undef = x30
            generalize tm.getD 31 undef = x31
            generalize tm.getD 32 undef = x32
            generalize tm.getD 33 undef = x33
            generalize tm.getD 34 undef = x34
            generalize tm.getD 35 undef = x35
            generalize tm.getD 36 undef = x36
            generalize tm.getD 37 undef = x37
            generalize tm.getD 38 undef = x38
            generalize tm.getD 39 undef = x39
            generalize tm.getD 40 undef = x40
            generalize tm.getD 41 undef = x41
            generalize tm.getD 42 undef = x42
            clear HQ
            have HBL := Lib.hid (belB HB5.out HB5.out.size HBW.out)
            clear HBW
            go_wp2_with fail
            go_ret
            exact ⟨rfl, HBL.out⟩
        · have h0' : ((n : Int) == 0) = false := by simp [h0]
          have hnp : 1 ≤ n := by omega
          have HCUT := Lib.hid (bl_cut (rd_own HO5.out) hnp HNC.out)
          have hnc := HNC.out
          have hcm := HCM.out
          unfold maxLen at hcm
          go_wp2_with fail
          refine wp_region_inv' (TabJ 17 (fun j => [27, 28, 29, 30, 31, 32, 33, 34, 35, 36, 37, 38, 39, 40, 41, 42, 2].getD j 0) (fun j v => match j with
            | 0 => v = .bool true
            | 1 => v = .bool false
            | 2 => v = .bool false
            | 3 => v = .slice A n c
            | 4 => v = .int .i64 n
            | 5 => v = .bool false
            | 6 => v = .bool false
            | 7 => v = .bool false
            | 8 => v = .slice A n c
            | 9 => ∃ A' c', v = .slice A' (n - 1) c' ∧ Rd x5 3 A' (n - 1) (bls (l.drop 1)) ∧ n - 1 ≤ c' ∧ c' ≤ maxLen
            | 10 => v = .agg #[.int .i64 ak, .int .i64 an, .string ax, .string ay, .string at_]
            | 11 => v = .bool true
            | 12 => v = .bool true
            | 13 => v = .bool true
            | 14 => v = .bool true
            | 15 => v = .bool true
            | 16 => v = .bool true
            | _ => True) 24 (undef) 24 25 0 #[] #[] x5) (by kernel_rfl) (regOkI_of (by kernel_rfl)) (TabJ.start (by intro h; exact absurd h (by decide))) ?_ ?_
          · intro i o f bx wb ho hf hrd hcl hsz hfr hJ K hK
            have hi := (Array.getElem?_eq_some_iff.1 ho).1
            simp only [List.size_toArray, List.length_cons, List.length_nil] at hi
            have hcases : i = 0 ∨ i = 1 ∨ i = 2 ∨ i = 3 ∨ i = 4 ∨ i = 5 ∨ i = 6 ∨ i = 7 ∨ i = 8 ∨ i = 9 ∨ i = 10 ∨ i = 11 ∨ i = 12 ∨ i = 13 ∨ i = 14 ∨ i = 15 ∨ i = 16 := by omega
            have hB := hJ.below.size
            rcases hcases with rfl | rfl | rfl | rfl | rfl | rfl | rfl | rfl | rfl | rfl | rfl | rfl | rfl | rfl | rfl | rfl | rfl
            · cases (show some _ = some o from ho)
              refine ite_yes (by rfl) ?_
              have h5 : bx.tmps.getD 5 undef = .bool true := hfr 5 (noDst_of (by kernel_rfl))
              have f5 := getD_opt h5
              have HK := Lib.hid hK
              have HJ := Lib.hid hJ
              clear hK hJ hcl hrd hfr hsz ho
              go_simp
              exact HK.out _ _ (HJ.out.pure (by decide +kernel) 0 (by decide) (by decide) (by decide) rfl)
            · cases (show some _ = some o from ho)
              refine ite_yes (by rfl) ?_
              have h27 : bx.tmps.getD 27 undef = .bool true := hJ.m 0 (by decide) (hrd ⟨0, .data⟩ (by simp) rfl)
              have f27 := getD_opt h27
              have HK := Lib.hid hK
              have HJ := Lib.hid hJ
              clear hK hJ hcl hrd hfr hsz ho
              go_simp
              exact HK.out _ _ (HJ.out.pure (by decide +kernel) 1 (by decide) (by decide) (by decide) rfl)
            · cases (show some _ = some o from ho)
              refine ite_yes (by rfl) ?_
              have h28 : bx.tmps.getD 28 undef = .bool false := hJ.m 1 (by decide) (hrd ⟨1, .data⟩ (by simp) rfl)
              have f28 := getD_opt h28
              have HK := Lib.hid hK
              have HJ := Lib.hid hJ
              clear hK hJ hcl hrd hfr hsz ho
              go_simp
              exact HK.out _ _ (HJ.out.pure (by decide +kernel) 2 (by decide) (by decide) (by decide) rfl)
            · cases (show some _ = some o from ho)
              have hg : bx.tmps.getD 29 undef = .bool false := hJ.m 2 (by decide) (hrd ⟨2, .guard⟩ (by simp) rfl)
              refine ite_yes ((wanted_of rfl rfl rfl hg).trans rfl) ?_
              have h3 : bx.tmps.getD 3 undef = .slice A n c := hfr 3 (noDst_of (by kernel_rfl))
              have f3 := getD_opt h3
              have HK := Lib.hid hK
              have HJ := Lib.hid hJ
              clear hK hJ hcl hrd hfr hsz ho
              go_simp
              exact HK.out _ _ (HJ.out.pure (by decide +kernel) 3 (by decide) (by decide) (by decide) rfl)
            · cases (show some _ = some o from ho)
              have hg : bx.tmps.getD 29 undef = .bool false := hJ.m 2 (by decide) (hrd ⟨2, .guard⟩ (by simp) rfl)
              refine ite_yes ((wanted_of rfl rfl rfl hg).trans rfl) ?_
              have h30 : bx.tmps.getD 30 undef = .slice A n c := hJ.m 3 (by decide) (hrd ⟨3, .data⟩ (by simp) rfl)
              have f30 := getD_opt h30
              have HK := Lib.hid hK
              have HJ := Lib.hid hJ
              clear hK hJ hcl hrd hfr hsz ho
              go_simp
              exact HK.out _ _ (HJ.out.pure (by decide +kernel) 4 (by decide) (by decide) (by decide) rfl)
            · cases (show some _ = some o from ho)
              have hg : bx.tmps.getD 29 undef = .bool false := hJ.m 2 (by decide) (hrd ⟨2, .guard⟩ (by simp) rfl)
              refine ite_yes ((wanted_of rfl rfl rfl hg).trans rfl) ?_
              have h31 : bx.tmps.getD 31 undef = .int .i64 n := hJ.m 4 (by decide) (hrd ⟨4, .data⟩ (by simp) rfl)
              have f31 := getD_opt h31
              have HK := Lib.hid hK
              have HJ := Lib.hid hJ
              clear hK hJ hcl hrd hfr hsz ho
              go_simp
              exact HK.out _ _ (HJ.out.pure (by decide +kernel) 5 (by decide) (by decide) (by decide) rfl)
            · cases (show some _ = some o from ho)
              refine ite_yes (by rfl) ?_
              have h29 : bx.tmps.getD 29 undef = .bool false := hJ.m 2 (by decide) (hrd ⟨2, .data⟩ (by simp) rfl)
              have f29 := getD_opt h29
              have h32 : bx.tmps.getD 32 undef = .bool false := hJ.m 5 (by decide) (hrd ⟨5, .data⟩ (by simp) rfl)
              have f32 := getD_opt h32
              have HK := Lib.hid hK
              have HJ := Lib.hid hJ
              clear hK hJ hcl hrd hfr hsz ho
              go_simp
              exact HK.out _ _ (HJ.out.pure (by decide +kernel) 6 (by decide) (by decide) (by decide) rfl)
            · cases (show some _ = some o from ho)
              refine ite_yes (by rfl) ?_
              have h33 : bx.tmps.getD 33 undef = .bool false := hJ.m 6 (by decide) (hrd ⟨6, .data⟩ (by simp) rfl)
              have f33 := getD_opt h33
              have HK := Lib.hid hK
              have HJ := Lib.hid hJ
              clear hK hJ hcl hrd hfr hsz ho
              go_simp
              exact HK.out _ _ (HJ.out.pure (by decide +kernel) 7 (by decide) (by decide) (by decide) rfl)
            · cases (show some _ = some o from ho)
              have hg : bx.tmps.getD 34 undef = .bool false := hJ.m 7 (by decide) (hrd ⟨7, .guard⟩ (by simp) rfl)
              refine ite_yes ((wanted_of rfl rfl rfl hg).trans rfl) ?_
              have h3 : bx.tmps.getD 3 undef = .slice A n c := hfr 3 (noDst_of (by kernel_rfl))
              have f3 := getD_opt h3
              have HK := Lib.hid hK
              have HJ := Lib.hid hJ
              clear hK hJ hcl hrd hfr hsz ho
              go_simp
              exact HK.out _ _ (HJ.out.pure (by decide +kernel) 8 (by decide) (by decide) (by decide) rfl)
            · cases (show some _ = some o from ho)
              have hg : bx.tmps.getD 34 undef = .bool false := hJ.m 7 (by decide) (hrd ⟨7, .guard⟩ (by simp) rfl)
              refine ite_yes ((wanted_of rfl rfl rfl hg).trans rfl) ?_
              have h35 : bx.tmps.getD 35 undef = .slice A n c := hJ.m 8 (by decide) (hrd ⟨8, .data⟩ (by simp) rfl)
              have f35 := getD_opt h35
              have HK := Lib.hid hK
              have HJ := Lib.hid hJ
              have hR := HCUT.out
              clear hK hJ hcl hrd hfr hsz ho
              by_cases hx : c = 1
              · rw [if_pos hx] at hR
                have hn1 : n = 1 := by omega
                go_simp
                try rw [if_pos (by omega)]
                exact HK.out _ _ (HJ.out.pure (by decide +kernel) 9 (by decide) (by decide) (by decide) ⟨_, 0, by first | rfl | (rw [show n - 1 = 0 by omega]), hR, by omega, by simp [maxLen]⟩)
              · rw [if_neg hx] at hR
                have hx' : (c == 1) = false := by simpa using hx
                have hx2 : 1 < c := by omega
                have hx3 : 1 ≤ c := by omega
                go_simp
                try rw [if_pos (by omega)]
                exact HK.out _ _ (HJ.out.pure (by decide +kernel) 9 (by decide) (by decide) (by decide) ⟨_, _, rfl, hR, by omega, by have := HCM.out; omega⟩)
            · cases (show some _ = some o from ho)
              have hg : bx.tmps.getD 34 undef = .bool false := hJ.m 7 (by decide) (hrd ⟨7, .guard⟩ (by simp) rfl)
              refine ite_yes ((wanted_of rfl rfl rfl hg).trans rfl) ?_
              have h4 : bx.tmps.getD 4 undef = .pointer (some ⟨gz, 0, none⟩) := hfr 4 (noDst_of (by kernel_rfl))
              have f4 := getD_opt h4
              have d0 := (hJ.below.cell (p := ⟨gz, 0, none⟩) kl5).trans e0
              have d1 := (hJ.below.cell (p := ⟨gz, 1, none⟩) kl5).trans e1
              have d2 := (hJ.below.cell (p := ⟨gz, 2, none⟩) kl5).trans e2
              have d3 := (hJ.below.cell (p := ⟨gz, 3, none⟩) kl5).trans e3
              have d4 := (hJ.below.cell (p := ⟨gz, 4, none⟩) kl5).trans e4
              have HK := Lib.hid hK
              have HJ := Lib.hid hJ
              clear hK hJ hcl hrd hfr hsz ho
              go_simp
              exact HK.out _ _ (HJ.out.pure (by decide +kernel) 10 (by decide) (by decide) (by decide) rfl)
            · cases (show some _ = some o from ho)
              have hg : bx.tmps.getD 34 undef = .bool false := hJ.m 7 (by decide) (hrd ⟨7, .guard⟩ (by simp) rfl)
              refine ite_yes ((wanted_of rfl rfl rfl hg).trans rfl) ?_
              obtain ⟨A', c', h36, hr1, hr2, hr3⟩ := hJ.m 9 (by decide) (hrd ⟨9, .data⟩ (by simp) rfl)
              have h36 : bx.tmps.getD 36 undef = _ := h36
              have h37 : bx.tmps.getD 37 undef = .agg #[.int .i64 ak, .int .i64 an, .string ax, .string ay, .string at_] := hJ.m 10 (by decide) (hrd ⟨10, .data⟩ (by simp) rfl)
              have f36 := getD_opt h36
              have f37 := getD_opt h37
              have HK := Lib.hid hK
              have HJ := Lib.hid hJ
              clear hK hJ hcl hrd hfr hsz ho h36 h37
              go_simp
              refine (ihf_any A' (n - 1) c' (l.drop 1) ⟨ak, an, ⟨ax, ay⟩, at_⟩ wb (hr1.below HJ.out.below) hr2 hr3 (fun y hy => HS.out y (List.mem_of_mem_drop hy)) HZ1.out HZ2.out HZ3.out).mono ?_
              rw [HDROP.out (by first | rfl | trivial)]
              rintro e w' ⟨rfl, hb⟩
              exact HK.out _ _ (HJ.out.step (by decide +kernel) 11 (by decide) (by decide) (by decide) hb rfl)
            · cases (show some _ = some o from ho)
              refine ite_yes (by rfl) ?_
              have h34 : bx.tmps.getD 34 undef = .bool false := hJ.m 7 (by decide) (hrd ⟨7, .data⟩ (by simp) rfl)
              have f34 := getD_opt h34
              have h38 : bx.tmps.getD 38 undef = .bool true := hJ.m 11 (by decide) (hrd ⟨11, .data⟩ (by simp) rfl)
              have f38 := getD_opt h38
              have HK := Lib.hid hK
              have HJ := Lib.hid hJ
              clear hK hJ hcl hrd hfr hsz ho
              go_simp
              exact HK.out _ _ (HJ.out.pure (by decide +kernel) 12 (by decide) (by decide) (by decide) rfl)
            · cases (show some _ = some o from ho)
              refine ite_yes (by rfl) ?_
              have h39 : bx.tmps.getD 39 undef = .bool true := hJ.m 12 (by decide) (hrd ⟨12, .data⟩ (by simp) rfl)
              have f39 := getD_opt h39
              have HK := Lib.hid hK
              have HJ := Lib.hid hJ
              clear hK hJ hcl hrd hfr hsz ho
              go_simp
              exact HK.out _ _ (HJ.out.pure (by decide +kernel) 13 (by decide) (by decide) (by decide) rfl)
            · cases (show some _ = some o from ho)
              have hg : bx.tmps.getD 40 undef = .bool true := hJ.m 13 (by decide) (hrd ⟨13, .guard⟩ (by simp) rfl)
              refine ite_yes ((wanted_of rfl rfl rfl hg).trans rfl) ?_
              have HK := Lib.hid hK
              have HJ := Lib.hid hJ
              clear hK hJ hcl hrd hfr hsz ho
              go_simp
              refine (alive_any _).mono ?_
              rintro e w' ⟨rfl, rfl⟩
              exact HK.out _ _ (HJ.out.step (by decide +kernel) 14 (by decide) (by decide) (by decide) (Below.refl _ _) rfl)
            · cases (show some _ = some o from ho)
              refine ite_yes (by rfl) ?_
              have h40 : bx.tmps.getD 40 undef = .bool true := hJ.m 13 (by decide) (hrd ⟨13, .data⟩ (by simp) rfl)
              have f40 := getD_opt h40
              have h41 : bx.tmps.getD 41 undef = .bool true := hJ.m 14 (by decide) (hrd ⟨14, .data⟩ (by simp) rfl)
              have f41 := getD_opt h41
              have HK := Lib.hid hK
              have HJ := Lib.hid hJ
              clear hK hJ hcl hrd hfr hsz ho
              go_simp
              exact HK.out _ _ (HJ.out.pure (by decide +kernel) 15 (by decide) (by decide) (by decide) rfl)
            · cases (show some _ = some o from ho)
              refine ite_yes (by rfl) ?_
              have h42 : bx.tmps.getD 42 undef = .bool true := hJ.m 15 (by decide) (hrd ⟨15, .data⟩ (by simp) rfl)
              have f42 := getD_opt h42
              have HK := Lib.hid hK
              have HJ := Lib.hid hJ
              clear hK hJ hcl hrd hfr hsz ho
              go_simp
              exact HK.out _ _ (HJ.out.pure (by decide +kernel) 16 (by decide) (by decide) (by decide) rfl)
          · intro f bx wb hall hsz hdf hfr hJ
            have HBW := Lib.hid hJ.below
            obtain ⟨tm, df⟩ := bx
            obtain rfl : df = [] := hdf
            have q2 : tm.getD 2 undef = .bool true := hJ.m 16 (by decide) (hall 16 (by decide))
            have q := lit_of tm 43 hsz
            simp only [List.range, List.range.loop, List.map, q2] at q
            have HQ := Lib.hid q
            clear q hsz hfr hJ hall q2
            rw [HQ.out]
            generalize tm.getD 0 undef = x0
            generalize tm.getD 1 undef = x1
            generalize tm.getD 3 undef = x3
            generalize tm.getD 4 undef = x4
            generalize tm.getD 5 undef = x5
            generalize tm.getD 6 undef = x6
            generalize tm.getD 7 undef = x7
            generalize tm.getD 8 undef = x8
            generalize tm.getD 9 undef = x9
            generalize tm.getD 10 undef = x10
            generalize tm.getD 11 undef = x11
            generalize tm.getD 12 undef = x12
            generalize tm.getD 13 undef = x13
            generalize tm.getD 14 undef = x14
            generalize tm.getD 15 undef = x15
            generalize tm.getD 16 undef = x16
            generalize tm.getD 17 undef = x17
            generalize tm.getD 18 undef = x18
            generalize tm.getD 19 undef = x19
            generalize tm.getD 20 undef = x20
            generalize tm.getD 21 undef = x21
            generalize tm.getD 22 undef = x22
            generalize tm.getD 23 undef = x23
            generalize tm.getD 24 undef = x24
            generalize tm.getD 25 undef = x25
            generalize tm.getD 26 undef = x26
            generalize tm.getD 27 undef = x27
            generalize tm.getD 28 undef = x28
            generalize tm.getD 29 undef = x29
            generalize tm.getD 30 undef = x30
            generalize tm.getD 31 undef = x31
            generalize tm.getD 32 undef = x32
            generalize tm.getD 33 undef = x33
            generalize tm.getD 34 undef = x34
            generalize tm.getD 35 undef = x35
            generalize tm.getD 36 undef = x36
            generalize tm.getD 37 undef = x37
            generalize tm.getD 38 undef = x38
            generalize tm.getD 39 undef = x39
            generalize tm.getD 40 undef = x40
            generalize tm.getD 41 undef = x41
            generalize tm.getD 42 undef = x42
            clear HQ
            have HBL := Lib.hid (belB HB5.out HB5.out.size HBW.out)
            clear HBW
            go_wp2_with fail
            go_ret
            exact ⟨rfl, HBL.out⟩
end Go.Proofs.Ytajfglcoigklnaa
