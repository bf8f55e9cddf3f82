/-
  The contract of AddDelivery of the reference.
-/
import Derived.Test.YtadgmncngkkdnaaAddImpl
import Derived.Test.YtadgmncngkkdnaaIns
import Derived.Test.YtadgmncngkkdnaaTypedS
import Derived.Deep.DeepCutAuto
namespace Go.Proofs.Ytadgmncngkkdnaa
open Go.ChangeShapes Go.WideShapes Go.ChangeAt Go.RowKit Go.Joins
set_option linter.unusedVariables false

set_option maxRecDepth 100000 in
set_option maxHeartbeats 4000000 in
theorem sad_any (A : Option Addr) (n c : Nat) (l : List De) (d : De) (w : World) (h : Rd w 4 A n (des l)) (hn : n ≤ 1048576) (hnc : n ≤ c) (hc : c ≤ maxLen) (hs : ∀ z ∈ l, z.b.size ≤ maxLen) (hd : d.b.size ≤ maxLen) :
    Calls Try.prog 10 #[.slice A n c, dev d] w fun e w' => ∃ v, e = .returned (.tuple #[v, .bool (adB l d)]) ∧ w'.ownsRow w.heap.size 25 4 v (adL l d).length (des (adL l d)) ∧ Below w.heap.size w w' := by
  have hll := rd_delen h
  have hnl : n ≤ maxLen := Nat.le_trans hnc hc
  have H := Lib.hid h; have HLL := Lib.hid hll; have HS := Lib.hid hs; have HNC := Lib.hid hnc; have HC := Lib.hid hc; have HN := Lib.hid hn; have HD := Lib.hid hd; have HNL := Lib.hid hnl
  clear h hll hs hnc hc hd hnl
  obtain ⟨i0, hi, hz0, hz1, hz2⟩ := info_parts de_info
  have HI := Lib.hid hi; have HZ0 := Lib.hid hz0; have HZ1 := Lib.hid hz1; have HZ2 := Lib.hid hz2
  clear hi hz0 hz1 hz2
  generalize hr : adL l d = R
  generalize hbr : adB l d = bR
  have HR := Lib.hid hr; have HBR := Lib.hid hbr; clear hr hbr
  obtain ⟨da, db, dc, dd⟩ := d
  cases hv : deB l
  · have HE : Hid (R = [] ∧ bR = false) := Lib.hid (by rw [← HR.out, ← HBR.out]; exact adL_bad hv)
    have HV := Lib.hid hv; clear hv
    go_enter Try.func10, Try.ntmps10
    go_wp2_with fail
    refine (sde_any _ _ _ _ _ (H.out.alloc _) HNL.out HS.out).mono ?_
    rw [HV.out]
    rintro e w1 ⟨rfl, hb1⟩
    have HB1 := Lib.hid (bela hb1); clear hb1
    go_wp2_with fail
    go_ret2
    exact ⟨_, by rw [HE.out.2]; rfl, by rw [HE.out.1]; exact own_less (World.ownsRow_made _ #[] 0 (Nat.le_refl _) (by simp) (by simp)) HB1.out.size, HB1.out.alloc HB1.out.size _⟩
  · have HV := Lib.hid hv; clear hv
    go_enter Try.func10, Try.ntmps10
    go_wp2_with fail
    refine (sde_any _ _ _ _ _ (H.out.alloc _) HNL.out HS.out).mono ?_
    rw [HV.out]
    rintro e w1 ⟨rfl, hb1⟩
    have HK1 : Hid (Bk w1 w.heap.size 25 #[.int .i64 da, .string db, .int .i64 dc, .int .i64 dd]) := Lib.hid ((Bk.new w _ _).keep hb1)
    have HB1 := Lib.hid (bela hb1); clear hb1
    have k0 := HK1.out.cell 0 (v := .int .i64 da) rfl
    have k1 := HK1.out.cell 1 (v := .string db) rfl
    have k2 := HK1.out.cell 2 (v := .int .i64 dc) rfl
    have k3 := HK1.out.cell 3 (v := .int .i64 dd) rfl
    have hkl := HK1.out.lt
    go_wp2_with fail
    go_loopw [6] (fun i wr => ∃ k : Nat, k ≤ n ∧ i = .int .i64 k ∧ AdG l ⟨da, db, dc, dd⟩ k ∧ ∃ q, w1.drewN q = wr) (fun i _ => (intOf i).toNat)
    case atStart => exact ⟨n, Nat.le_refl _, rfl, by rw [← HLL.out]; exact AdG_n _ _, 0, rfl⟩
    case round =>
      obtain ⟨k, hk, rfl, hal, q, rfl⟩ := hrel
      have HAL := Lib.hid hal; clear hal
      by_cases h0 : 0 < k
      · have hd0 : decide (0 < k) = true := by simpa using h0
        obtain ⟨b, off, z, rfl, hbl, hz, hc0, hc1, hc2, hc3⟩ := (H.out.below HB1.out).de (show k - 1 < n by omega)
        have HZ := Lib.hid hz; clear hz hc0 hc1 hc2
        have j1 : (0 : Int) ≤ (k : Int) - 1 := by omega
        have j2 : ((k : Int) - 1).toNat = k - 1 := by omega
        have j3 : (k : Int) - 1 < (n : Int) := by omega
        by_cases hle : dd < z.d
        · go_wp2
          go_quiet (fail)
          go_wp2
          go_roundw
          case rel => exact ⟨k - 1, by omega, by go_num, AdG_pred HAL.out h0 HZ.out hle, _, rfl⟩
          case measure => simp [intOf]; omega
        · have HKN : Hid (k = adN l ⟨da, db, dc, dd⟩) := Lib.hid (ad_atG HV.out (by rw [HLL.out]; exact hk) HAL.out (fun z' _ hz' => by rw [HZ.out] at hz'; injection hz' with hz'; subst hz'; simp only; omega))
          go_wp2
          go_quiet (fail)
          go_upto_region 6 with (fail)
          clear hc3 hle j1 j2 j3 HZ k0 k1 k2 k3 hd0 h0 hkl hbl
          generalize eA : (some ⟨b, off, none⟩ : Option Addr) = A at *
          clear eA
          have HKQ : Hid (Bk ((w1.drewN q).drewN nq) w.heap.size 25 #[.int .i64 da, .string db, .int .i64 dc, .int .i64 dd]) := Lib.hid ((HK1.out.drewN _).drewN _)
          have HRD := Lib.hid (H.out.below (bdN (bdN HB1.out q) nq))
          have HBQ := Lib.hid (bdN (bdN HB1.out q) nq)
          generalize (w1.drewN q).drewN nq = wq at *
          have hkb : Bk wq w.heap.size 25 #[.int .i64 da, .string db, .int .i64 dc, .int .i64 dd] := HKQ.out
          have k0 := hkb.cell 0 (v := .int .i64 da) rfl
          have k1 := hkb.cell 1 (v := .string db) rfl
          have k2 := hkb.cell 2 (v := .int .i64 dc) rfl
          have k3 := hkb.cell 3 (v := .int .i64 dd) rfl
          have hkl := hkb.lt
          have R1 := Lib.hid (reads_of_rd (de_take HRD.out hk) (by omega))
          have R2 := Lib.hid (reads_of_rd (de_cut HRD.out hk HNC.out) (by omega))
          have hnc := HNC.out
          have hcm := HC.out
          unfold maxLen at hcm
          have hkc : k ≤ c := by omega
          clear hkb
          refine wp_region_inv (InsJ 25 4 29 wq.heap.size A n k c (fun v => ∃ A' c', v = .slice A' (n - k) c' ∧ Reads wq wq.heap.size 4 A' (n - k) (des (l.drop k))) (dev ⟨da, db, dc, dd⟩) (dec ⟨da, db, dc, dd⟩) (des (l.take k)) (des (l.drop k)) wq) (by kernel_rfl) (regOkG_of (by kernel_rfl) (by kernel_rfl)) (InsJ.start (by simp) (Below.refl _ _).drew) ?_ ?_
          · intro i o f b wb ho hf hrd hcl hsz hfr hJ K hK
            have hi := (Array.getElem?_eq_some_iff.1 ho).1
            simp only [List.size_toArray, List.length_cons, List.length_nil] at hi
            have hcases : i = 0 ∨ i = 1 ∨ i = 2 ∨ i = 3 ∨ i = 4 ∨ i = 5 ∨ i = 6 ∨ i = 7 ∨ i = 8 ∨ i = 9 ∨ i = 10 ∨ i = 11 ∨ i = 12 := by omega
            have c40 : f 0 = false → f 4 = false := fun h => by
              cases e : f 4
              · rfl
              · rw [hcl 4 _ ⟨0, .data⟩ rfl e (by simp) rfl] at h; cases h
            have c74 : f 4 = false → f 7 = false := fun h => by
              cases e : f 7
              · rfl
              · rw [hcl 7 _ ⟨4, .data⟩ rfl e (by simp) rfl] at h; cases h
            have c76 : f 6 = false → f 7 = false := fun h => by
              cases e : f 7
              · rfl
              · rw [hcl 7 _ ⟨6, .data⟩ rfl e (by simp) rfl] at h; cases h
            have c117 : f 7 = false → f 11 = false := fun h => by
              cases e : f 11
              · rfl
              · rw [hcl 11 _ ⟨7, .data⟩ rfl e (by simp) rfl] at h; cases h
            have c1211 : f 11 = false → f 12 = false := fun h => by
              cases e : f 12
              · rfl
              · rw [hcl 12 _ ⟨11, .data⟩ rfl e (by simp) rfl] at h; cases h
            have hB : wq.heap.size ≤ wb.heap.size := hJ.below.size
            have g0 := (hJ.below.cell (p := ⟨w.heap.size, 0, none⟩) hkl).trans k0
            have g1 := (hJ.below.cell (p := ⟨w.heap.size, 1, none⟩) hkl).trans k1
            have g2 := (hJ.below.cell (p := ⟨w.heap.size, 2, none⟩) hkl).trans k2
            have g3 := (hJ.below.cell (p := ⟨w.heap.size, 3, none⟩) hkl).trans k3
            rcases hcases with rfl | rfl | rfl | rfl | rfl | rfl | rfl | rfl | rfl | rfl | rfl | rfl | rfl
            · cases (show some _ = some o from ho)
              refine ite_yes (by rfl) ?_
              have h4 := c40 hf
              have h7 := c74 h4
              have h11 := c117 h7
              have HK := Lib.hid hK; have HJ := Lib.hid hJ
              clear hK hJ hcl hrd hfr hsz ho
              go_simp
              exact HK.out _ _ (HJ.out.step0 (by decide) hB h4 h7 h11)
            · cases (show some _ = some o from ho)
              refine ite_yes (by rfl) ?_
              have h0 : b.tmps.getD 0 undef = _ := hfr 0 (noDst_of (by kernel_rfl))
              have f0 := getD_opt h0
              have HK := Lib.hid hK; have HJ := Lib.hid hJ
              clear hK hJ hcl hrd hfr hsz ho
              go_simp
              exact HK.out _ _ (HJ.out.pure 1 30 _ (by decide) (by decide) (by decide) (fun _ => rfl) (by intro e; cases e) (by intro e; cases e) (by intro e; cases e) (by intro e; cases e) (by intro e; cases e) (by intro e; cases e) (by intro e; cases e))
            · cases (show some _ = some o from ho)
              refine ite_yes (by rfl) ?_
              have h6 : b.tmps.getD 6 undef = _ := hfr 6 (noDst_of (by kernel_rfl))
              have f6 := getD_opt h6
              have HK := Lib.hid hK; have HJ := Lib.hid hJ
              clear hK hJ hcl hrd hfr hsz ho
              go_simp
              exact HK.out _ _ (HJ.out.pure 2 31 _ (by decide) (by decide) (by decide) (by intro e; cases e) (fun _ => rfl) (by intro e; cases e) (by intro e; cases e) (by intro e; cases e) (by intro e; cases e) (by intro e; cases e) (by intro e; cases e))
            · cases (show some _ = some o from ho)
              refine ite_yes (by rfl) ?_
              have h30 : b.tmps.getD 30 undef = _ := hJ.m1 (hrd ⟨1, .data⟩ (by simp) rfl)
              have f30 := getD_opt h30
              have h31 : b.tmps.getD 31 undef = _ := hJ.m2 (hrd ⟨2, .data⟩ (by simp) rfl)
              have f31 := getD_opt h31
              have HK := Lib.hid hK; have HJ := Lib.hid hJ
              clear hK hJ hcl hrd hfr hsz ho
              go_simp
              exact HK.out _ _ (HJ.out.pure 3 32 _ (by decide) (by decide) (by decide) (by intro e; cases e) (by intro e; cases e) (fun _ => rfl) (by intro e; cases e) (by intro e; cases e) (by intro e; cases e) (by intro e; cases e) (by intro e; cases e))
            · cases (show some _ = some o from ho)
              refine ite_yes (by rfl) ?_
              have h0 : f 0 = true := hrd ⟨0, .data⟩ (by simp) rfl
              have h3 : f 3 = true := hrd ⟨3, .data⟩ (by simp) rfl
              have h7 := c74 hf
              have h11 := c117 h7
              have hr := hJ.r0 h0 hf
              have hx : b.tmps.getD 32 undef = .slice A k c := hJ.m3 h3
              refine wp_append_any wb _ _ 23 rfl wq.heap.size 25 i0 _ 4 40 Try.underlying23 HI.out HZ0.out HZ1.out HZ2.out rfl (by omega) _ 0 [] rfl hr wq.heap.size A k c (des (l.take k)) hx (R1.out.below hJ.below) (des_oneC _) (by simp only [maxLen]; omega) (by omega) hB ?_
              intro v w' hown hg hat
              rw [Nat.zero_add, List.nil_append] at hown
              exact hK _ _ (hJ.step4 (by decide) hB h0 hf h7 h11 hown hg hat)
            · cases (show some _ = some o from ho)
              refine ite_yes (by rfl) ?_
              have h3 : b.tmps.getD 3 undef = _ := hfr 3 (noDst_of (by kernel_rfl))
              have f3 := getD_opt h3
              have HK := Lib.hid hK; have HJ := Lib.hid hJ
              clear hK hJ hcl hrd hfr hsz ho
              go_simp
              exact HK.out _ _ (HJ.out.pure 5 34 _ (by decide) (by decide) (by decide) (by intro e; cases e) (by intro e; cases e) (by intro e; cases e) (fun _ => rfl) (by intro e; cases e) (by intro e; cases e) (by intro e; cases e) (by intro e; cases e))
            · cases (show some _ = some o from ho)
              refine ite_yes (by rfl) ?_
              have h7 := c76 hf
              have h11 := c117 h7
              have h34 : b.tmps.getD 34 undef = dev ⟨da, db, dc, dd⟩ := hJ.m5 (hrd ⟨5, .data⟩ (by simp) rfl)
              have f34 := getD_opt h34
              have HK := Lib.hid hK; have HJ := Lib.hid hJ
              clear hK hJ hcl hrd hfr hsz ho
              go_simp
              exact HK.out _ _ (HJ.out.step6 (by decide) hB h7 h11)
            · cases (show some _ = some o from ho)
              refine ite_yes (by rfl) ?_
              have h4 : f 4 = true := hrd ⟨4, .data⟩ (by simp) rfl
              have h6 : f 6 = true := hrd ⟨6, .data⟩ (by simp) rfl
              have h11 := c117 hf
              have hr := hJ.r4 h4 hf
              obtain ⟨g, e1, e2, e3, _, _⟩ := hJ.r6 h6 hf
              have hx : b.tmps.getD 35 undef = .slice (some ⟨g, 0, none⟩) 1 1 := e1
              refine wp_append_any wb _ _ 23 rfl wq.heap.size 25 i0 _ 4 40 Try.underlying23 HI.out HZ0.out HZ1.out HZ2.out rfl (by omega) _ k _ rfl hr (g + 1) (some ⟨g, 0, none⟩) 1 1 (dec ⟨da, db, dc, dd⟩) hx (reads_bk' e3 rfl (Nat.lt_succ_self _)) (by intro u hu; simp [dec] at hu; rcases hu with rfl | rfl | rfl | rfl <;> rfl) (by simp only [maxLen]; omega) (by omega) hB ?_
              intro v w' hown hg hat
              exact hK _ _ (hJ.step7 (by decide) hB h4 hf h11 hown hg)
            · cases (show some _ = some o from ho)
              refine ite_yes (by rfl) ?_
              have h0 : b.tmps.getD 0 undef = _ := hfr 0 (noDst_of (by kernel_rfl))
              have f0 := getD_opt h0
              have HK := Lib.hid hK; have HJ := Lib.hid hJ
              clear hK hJ hcl hrd hfr hsz ho
              go_simp
              exact HK.out _ _ (HJ.out.pure 8 37 _ (by decide) (by decide) (by decide) (by intro e; cases e) (by intro e; cases e) (by intro e; cases e) (by intro e; cases e) (fun _ => rfl) (by intro e; cases e) (by intro e; cases e) (by intro e; cases e))
            · cases (show some _ = some o from ho)
              refine ite_yes (by rfl) ?_
              have h6 : b.tmps.getD 6 undef = _ := hfr 6 (noDst_of (by kernel_rfl))
              have f6 := getD_opt h6
              have HK := Lib.hid hK; have HJ := Lib.hid hJ
              clear hK hJ hcl hrd hfr hsz ho
              go_simp
              exact HK.out _ _ (HJ.out.pure 9 38 _ (by decide) (by decide) (by decide) (by intro e; cases e) (by intro e; cases e) (by intro e; cases e) (by intro e; cases e) (by intro e; cases e) (fun _ => rfl) (by intro e; cases e) (by intro e; cases e))
            · cases (show some _ = some o from ho)
              refine ite_yes (by rfl) ?_
              have h37 : b.tmps.getD 37 undef = _ := hJ.m8 (hrd ⟨8, .data⟩ (by simp) rfl)
              have f37 := getD_opt h37
              have h38 : b.tmps.getD 38 undef = _ := hJ.m9 (hrd ⟨9, .data⟩ (by simp) rfl)
              have f38 := getD_opt h38
              have HK := Lib.hid hK; have HJ := Lib.hid hJ
              clear hK hJ hcl hrd hfr hsz ho
              by_cases hck : c = k
              · have hR := R2.out
                rw [if_pos hck] at hR
                subst hck
                go_simp
                exact HK.out _ _ (HJ.out.pure 10 39 _ (by decide) (by decide) (by decide) (by intro e; cases e) (by intro e; cases e) (by intro e; cases e) (by intro e; cases e) (by intro e; cases e) (by intro e; cases e) (fun _ => ⟨_, 0, by rw [show n - c = 0 by omega], hR⟩) (by intro e; cases e))
              · have hR := R2.out
                rw [if_neg hck] at hR
                go_simp
                exact HK.out _ _ (HJ.out.pure 10 39 _ (by decide) (by decide) (by decide) (by intro e; cases e) (by intro e; cases e) (by intro e; cases e) (by intro e; cases e) (by intro e; cases e) (by intro e; cases e) (fun _ => ⟨_, _, rfl, hR⟩) (by intro e; cases e))
            · cases (show some _ = some o from ho)
              refine ite_yes (by rfl) ?_
              have h7 : f 7 = true := hrd ⟨7, .data⟩ (by simp) rfl
              have h10 : f 10 = true := hrd ⟨10, .data⟩ (by simp) rfl
              have h4 : f 4 = true := hcl 7 _ ⟨4, .data⟩ rfl h7 (by simp) rfl
              have h12 := c1211 hf
              have hr := hJ.r7 h7 hf
              obtain ⟨A', c', e1, hR⟩ := hJ.m10 h10
              have hx : b.tmps.getD 39 undef = .slice A' (n - k) c' := e1
              refine wp_append_any wb _ _ 23 rfl wq.heap.size 25 i0 _ 4 40 Try.underlying23 HI.out HZ0.out HZ1.out HZ2.out rfl (by omega) _ (k + 1) _ rfl hr wq.heap.size A' (n - k) c' (des (l.drop k)) hx (hR.below hJ.below) (des_oneC _) (by simp only [maxLen]; omega) (by omega) hB ?_
              intro v w' hown hg hat
              exact hK _ _ (hJ.step11 (by decide) hB h4 h7 hf h12 hown hg)
            · cases (show some _ = some o from ho)
              refine ite_yes (by rfl) ?_
              obtain ⟨A', c', h40, _, _, _⟩ := own_form (hJ.r11 (hrd ⟨11, .data⟩ (by simp) rfl))
              have h40 : b.tmps.getD 40 undef = .slice A' (k + 1 + (n - k)) c' := h40
              have f40 := getD_opt h40
              have HK := Lib.hid hK; have HJ := Lib.hid hJ; have H40 := Lib.hid h40
              clear hK hJ hcl hrd hfr hsz ho h40
              go_simp
              exact HK.out _ _ (HJ.out.pure 12 7 _ (by decide) (by decide) (by decide) (by intro e; cases e) (by intro e; cases e) (by intro e; cases e) (by intro e; cases e) (by intro e; cases e) (by intro e; cases e) (by intro e; cases e) (fun _ => H40.out.symm))
          · intro f b wb hall hsz hdf hfr hJ
            have h11 := hJ.r11 (hall 11 (by decide))
            have h12 : b.tmps.getD 7 undef = b.tmps.getD 40 undef := hJ.r12 (hall 12 (by decide))
            have HBL := Lib.hid hJ.below
            have hn1 : k + 1 + (n - k) = n + 1 := by omega
            have hM : des (l.take k) ++ dec ⟨da, db, dc, dd⟩ ++ des (l.drop k) = des (adM l ⟨da, db, dc, dd⟩) := by
              unfold adM; rw [← HKN.out, des_app, des_app, des_one]
            rw [hn1, hM] at h11
            have h11 : wb.ownsRow wq.heap.size 25 4 (b.tmps.getD 40 undef) (n + 1) (des (adM l ⟨da, db, dc, dd⟩)) := h11
            rw [← h12] at h11
            obtain ⟨A7, c7, e7, hnc7, hcm7, _⟩ := own_form h11
            rw [e7] at h11
            have HO7 := Lib.hid (own_less h11 HBQ.out.size); have HN7 : Hid (n + 1 ≤ maxLen) := Lib.hid (Nat.le_trans hnc7 hcm7)
            clear hJ hall h11 h12 hnc7 hcm7 hM
            obtain ⟨tm, df⟩ := b
            obtain rfl : df = [] := hdf
            have q0 : tm.getD 0 undef = .slice A n c := hfr 0 (noDst_of (by kernel_rfl))
            have q4 : tm.getD 4 undef = .slice none 0 0 := hfr 4 (noDst_of (by kernel_rfl))
            have q5 : tm.getD 5 undef = .bool false := hfr 5 (noDst_of (by kernel_rfl))
            have q7 : tm.getD 7 undef = .slice A7 (n + 1) c7 := e7
            have q := lit_of tm 48 hsz
            simp only [List.range, List.range.loop, List.map, q0, q4, q5, q7] at q
            have HQ := Lib.hid q
            clear q hsz hfr q0 q4 q5 q7 e7
            rw [HQ.out]
            generalize tm.getD 1 undef = x1
            generalize tm.getD 2 undef = x2
            generalize tm.getD 3 undef = x3
            generalize tm.getD 6 undef = x6
            generalize tm.getD 8 undef = x8
            generalize tm.getD 9 undef = x9
            generalize tm.getD 10 undef = x10
            generalize tm.getD 11 undef = x11
            generalize tm.getD 12 undef = x12
            generalize tm.getD 13 undef = x13
            generalize tm.getD 14 undef = x14
            generalize tm.getD 15 undef = x15
            generalize tm.getD 16 undef = x16
            generalize tm.getD 17 undef = x17
            generalize tm.getD 18 undef = x18
            generalize tm.getD 19 undef = x19
            generalize tm.getD 20 undef = x20
            generalize tm.getD 21 undef = x21
            generalize tm.getD 22 undef = x22
            generalize tm.getD 23 undef = x23
            generalize tm.getD 24 undef = x24
            generalize tm.getD 25 undef = x25
            generalize tm.getD 26 undef = x26
            generalize tm.getD 27 undef = x27
            generalize tm.getD 28 undef = x28
            generalize tm.getD 29 undef = x29
            generalize tm.getD 30 undef = x30
            generalize tm.getD 31 undef = x31
            generalize tm.getD 32 undef = x32
            generalize tm.getD 33 undef = x33
            generalize tm.getD 34 undef = x34
            generalize tm.getD 35 undef = x35
            generalize tm.getD 36 undef = x36
            generalize tm.getD 37 undef = x37
            generalize tm.getD 38 undef = x38
            generalize tm.getD 39 undef = x39
            generalize tm.getD 40 undef = x40
            generalize tm.getD 41 undef = x41
            generalize tm.getD 42 undef = x42
            generalize tm.getD 43 undef = x43
            generalize tm.getD 44 undef = x44
            generalize tm.getD 45 undef = x45
            generalize tm.getD 46 undef = x46
            generalize tm.getD 47 undef = x47
            clear HQ
            have HB8 := Lib.hid (HBQ.out.trans (HBL.out.mono HBQ.out.size))
            have HRB := Lib.hid (HRD.out.below HBL.out)
            go_wp2_with fail
            refine (sde_any _ _ _ (adM l ⟨da, db, dc, dd⟩) _ (rd_own HO7.out) HN7.out (adM_small HS.out HD.out)).mono ?_
            cases hv2 : deB (adM l ⟨da, db, dc, dd⟩)
            · rintro e w3 ⟨rfl, hb3⟩
              have HE : Hid (R = l ∧ bR = false) := Lib.hid (by rw [← HR.out, ← HBR.out]; exact adL_no HV.out hv2)
              have HB3 := Lib.hid (belB HB8.out HB8.out.size hb3)
              have HR3 := Lib.hid (HRB.out.below hb3)
              clear hb3 hv2
              go_wp2_with (first
                | (at_builtin
                   refine wpList_append_any _ rfl _ _ 23 rfl w.heap.size 25 i0 _ 4 40 Try.underlying23 HI.out HZ0.out HZ1.out HZ2.out rfl (by omega) (.slice (some ⟨w3.heap.size, 0, none⟩) 0 0) 0 [] rfl (own_less (World.ownsRow_made w3 #[] 0 (Nat.le_refl _) (by simp) (by simp)) HB3.out.size) w3.heap.size A n c (des l) rfl ((reads_of_rd HR3.out (by omega)).alloc (Nat.le_refl _) _) (des_oneC l) (by simp only [maxLen]; omega) (by omega) (by simp; have := HB3.out.size; omega) ?_
                   intro v1 w4 hown1 hg1 hat1
                   have HO4 := Lib.hid hown1
                   have HB4 : Hid (Below w.heap.size w w4) := Lib.hid ((HB3.out.alloc HB3.out.size _).grown hg1 (by simp; have := HB3.out.size; omega) (by intro k hk; simp [Value.ownBlock] at hk; have := HB3.out.size; omega))
                   clear hown1 hg1 hat1))
              go_wp2_with fail
              go_ret2
              exact ⟨_, by rw [HE.out.2]; rfl, by rw [HE.out.1, HLL.out]; have := HO4.out; simpa using this, HB4.out⟩
            · rintro e w3 ⟨rfl, hb3⟩
              have HE : Hid (R = adM l ⟨da, db, dc, dd⟩ ∧ bR = true) := Lib.hid (by rw [← HR.out, ← HBR.out]; exact adL_yes HV.out hv2)
              have HB3 := Lib.hid (belB HB8.out HB8.out.size hb3)
              have HO3 := Lib.hid (own_below HO7.out hb3)
              clear hb3 hv2
              go_wp2_with fail
              go_ret2
              exact ⟨_, by rw [HE.out.2]; rfl, by rw [HE.out.1, adM_len, HLL.out]; exact HO3.out, HB3.out⟩
      · obtain ⟨z0, hz0⟩ : ∃ z0 : Nat, z0 = k := ⟨_, rfl⟩
        have hk0 : k = 0 := by omega
        have HKN : Hid (k = adN l ⟨da, db, dc, dd⟩) := Lib.hid (ad_atG HV.out (by rw [HLL.out]; exact hk) HAL.out (fun z' hh _ => by omega))
        have hd0 : decide (0 < k) = false := by simpa using h0
        clear hz0 z0
        go_wp2
        go_quiet (fail)
        go_upto_region 6 with (fail)
        clear k0 k1 k2 k3 hd0 h0 hkl hk0
        have HKQ : Hid (Bk ((w1.drewN q).drewN nq) w.heap.size 25 #[.int .i64 da, .string db, .int .i64 dc, .int .i64 dd]) := Lib.hid ((HK1.out.drewN _).drewN _)
        have HRD := Lib.hid (H.out.below (bdN (bdN HB1.out q) nq))
        have HBQ := Lib.hid (bdN (bdN HB1.out q) nq)
        generalize (w1.drewN q).drewN nq = wq at *
        have hkb : Bk wq w.heap.size 25 #[.int .i64 da, .string db, .int .i64 dc, .int .i64 dd] := HKQ.out
        have k0 := hkb.cell 0 (v := .int .i64 da) rfl
        have k1 := hkb.cell 1 (v := .string db) rfl
        have k2 := hkb.cell 2 (v := .int .i64 dc) rfl
        have k3 := hkb.cell 3 (v := .int .i64 dd) rfl
        have hkl := hkb.lt
        have R1 := Lib.hid (reads_of_rd (de_take HRD.out hk) (by omega))
        have R2 := Lib.hid (reads_of_rd (de_cut HRD.out hk HNC.out) (by omega))
        have hnc := HNC.out
        have hcm := HC.out
        unfold maxLen at hcm
        have hkc : k ≤ c := by omega
        clear hkb
        refine wp_region_inv (InsJ 25 4 29 wq.heap.size A n k c (fun v => ∃ A' c', v = .slice A' (n - k) c' ∧ Reads wq wq.heap.size 4 A' (n - k) (des (l.drop k))) (dev ⟨da, db, dc, dd⟩) (dec ⟨da, db, dc, dd⟩) (des (l.take k)) (des (l.drop k)) wq) (by kernel_rfl) (regOkG_of (by kernel_rfl) (by kernel_rfl)) (InsJ.start (by simp) (Below.refl _ _).drew) ?_ ?_
        · intro i o f b wb ho hf hrd hcl hsz hfr hJ K hK
          have hi := (Array.getElem?_eq_some_iff.1 ho).1
          simp only [List.size_toArray, List.length_cons, List.length_nil] at hi
          have hcases : i = 0 ∨ i = 1 ∨ i = 2 ∨ i = 3 ∨ i = 4 ∨ i = 5 ∨ i = 6 ∨ i = 7 ∨ i = 8 ∨ i = 9 ∨ i = 10 ∨ i = 11 ∨ i = 12 := by omega
          have c40 : f 0 = false → f 4 = false := fun h => by
            cases e : f 4
            · rfl
            · rw [hcl 4 _ ⟨0, .data⟩ rfl e (by simp) rfl] at h; cases h
          have c74 : f 4 = false → f 7 = false := fun h => by
            cases e : f 7
            · rfl
            · rw [hcl 7 _ ⟨4, .data⟩ rfl e (by simp) rfl] at h; cases h
          have c76 : f 6 = false → f 7 = false := fun h => by
            cases e : f 7
            · rfl
            · rw [hcl 7 _ ⟨6, .data⟩ rfl e (by simp) rfl] at h; cases h
          have c117 : f 7 = false → f 11 = false := fun h => by
            cases e : f 11
            · rfl
            · rw [hcl 11 _ ⟨7, .data⟩ rfl e (by simp) rfl] at h; cases h
          have c1211 : f 11 = false → f 12 = false := fun h => by
            cases e : f 12
            · rfl
            · rw [hcl 12 _ ⟨11, .data⟩ rfl e (by simp) rfl] at h; cases h
          have hB : wq.heap.size ≤ wb.heap.size := hJ.below.size
          have g0 := (hJ.below.cell (p := ⟨w.heap.size, 0, none⟩) hkl).trans k0
          have g1 := (hJ.below.cell (p := ⟨w.heap.size, 1, none⟩) hkl).trans k1
          have g2 := (hJ.below.cell (p := ⟨w.heap.size, 2, none⟩) hkl).trans k2
          have g3 := (hJ.below.cell (p := ⟨w.heap.size, 3, none⟩) hkl).trans k3
          rcases hcases with rfl | rfl | rfl | rfl | rfl | rfl | rfl | rfl | rfl | rfl | rfl | rfl | rfl
          · cases (show some _ = some o from ho)
            refine ite_yes (by rfl) ?_
            have h4 := c40 hf
            have h7 := c74 h4
            have h11 := c117 h7
            have HK := Lib.hid hK; have HJ := Lib.hid hJ
            clear hK hJ hcl hrd hfr hsz ho
            go_simp
            exact HK.out _ _ (HJ.out.step0 (by decide) hB h4 h7 h11)
          · cases (show some _ = some o from ho)
            refine ite_yes (by rfl) ?_
            have h0 : b.tmps.getD 0 undef = _ := hfr 0 (noDst_of (by kernel_rfl))
            have f0 := getD_opt h0
            have HK := Lib.hid hK; have HJ := Lib.hid hJ
            clear hK hJ hcl hrd hfr hsz ho
            go_simp
            exact HK.out _ _ (HJ.out.pure 1 30 _ (by decide) (by decide) (by decide) (fun _ => rfl) (by intro e; cases e) (by intro e; cases e) (by intro e; cases e) (by intro e; cases e) (by intro e; cases e) (by intro e; cases e) (by intro e; cases e))
          · cases (show some _ = some o from ho)
            refine ite_yes (by rfl) ?_
            have h6 : b.tmps.getD 6 undef = _ := hfr 6 (noDst_of (by kernel_rfl))
            have f6 := getD_opt h6
            have HK := Lib.hid hK; have HJ := Lib.hid hJ
            clear hK hJ hcl hrd hfr hsz ho
            go_simp
            exact HK.out _ _ (HJ.out.pure 2 31 _ (by decide) (by decide) (by decide) (by intro e; cases e) (fun _ => rfl) (by intro e; cases e) (by intro e; cases e) (by intro e; cases e) (by intro e; cases e) (by intro e; cases e) (by intro e; cases e))
          · cases (show some _ = some o from ho)
            refine ite_yes (by rfl) ?_
            have h30 : b.tmps.getD 30 undef = _ := hJ.m1 (hrd ⟨1, .data⟩ (by simp) rfl)
            have f30 := getD_opt h30
            have h31 : b.tmps.getD 31 undef = _ := hJ.m2 (hrd ⟨2, .data⟩ (by simp) rfl)
            have f31 := getD_opt h31
            have HK := Lib.hid hK; have HJ := Lib.hid hJ
            clear hK hJ hcl hrd hfr hsz ho
            go_simp
            exact HK.out _ _ (HJ.out.pure 3 32 _ (by decide) (by decide) (by decide) (by intro e; cases e) (by intro e; cases e) (fun _ => rfl) (by intro e; cases e) (by intro e; cases e) (by intro e; cases e) (by intro e; cases e) (by intro e; cases e))
          · cases (show some _ = some o from ho)
            refine ite_yes (by rfl) ?_
            have h0 : f 0 = true := hrd ⟨0, .data⟩ (by simp) rfl
            have h3 : f 3 = true := hrd ⟨3, .data⟩ (by simp) rfl
            have h7 := c74 hf
            have h11 := c117 h7
            have hr := hJ.r0 h0 hf
            have hx : b.tmps.getD 32 undef = .slice A k c := hJ.m3 h3
            refine wp_append_any wb _ _ 23 rfl wq.heap.size 25 i0 _ 4 40 Try.underlying23 HI.out HZ0.out HZ1.out HZ2.out rfl (by omega) _ 0 [] rfl hr wq.heap.size A k c (des (l.take k)) hx (R1.out.below hJ.below) (des_oneC _) (by simp only [maxLen]; omega) (by omega) hB ?_
            intro v w' hown hg hat
            rw [Nat.zero_add, List.nil_append] at hown
            exact hK _ _ (hJ.step4 (by decide) hB h0 hf h7 h11 hown hg hat)
          · cases (show some _ = some o from ho)
            refine ite_yes (by rfl) ?_
            have h3 : b.tmps.getD 3 undef = _ := hfr 3 (noDst_of (by kernel_rfl))
            have f3 := getD_opt h3
            have HK := Lib.hid hK; have HJ := Lib.hid hJ
            clear hK hJ hcl hrd hfr hsz ho
            go_simp
            exact HK.out _ _ (HJ.out.pure 5 34 _ (by decide) (by decide) (by decide) (by intro e; cases e) (by intro e; cases e) (by intro e; cases e) (fun _ => rfl) (by intro e; cases e) (by intro e; cases e) (by intro e; cases e) (by intro e; cases e))
          · cases (show some _ = some o from ho)
            refine ite_yes (by rfl) ?_
            have h7 := c76 hf
            have h11 := c117 h7
            have h34 : b.tmps.getD 34 undef = dev ⟨da, db, dc, dd⟩ := hJ.m5 (hrd ⟨5, .data⟩ (by simp) rfl)
            have f34 := getD_opt h34
            have HK := Lib.hid hK; have HJ := Lib.hid hJ
            clear hK hJ hcl hrd hfr hsz ho
            go_simp
            exact HK.out _ _ (HJ.out.step6 (by decide) hB h7 h11)
          · cases (show some _ = some o from ho)
            refine ite_yes (by rfl) ?_
            have h4 : f 4 = true := hrd ⟨4, .data⟩ (by simp) rfl
            have h6 : f 6 = true := hrd ⟨6, .data⟩ (by simp) rfl
            have h11 := c117 hf
            have hr := hJ.r4 h4 hf
            obtain ⟨g, e1, e2, e3, _, _⟩ := hJ.r6 h6 hf
            have hx : b.tmps.getD 35 undef = .slice (some ⟨g, 0, none⟩) 1 1 := e1
            refine wp_append_any wb _ _ 23 rfl wq.heap.size 25 i0 _ 4 40 Try.underlying23 HI.out HZ0.out HZ1.out HZ2.out rfl (by omega) _ k _ rfl hr (g + 1) (some ⟨g, 0, none⟩) 1 1 (dec ⟨da, db, dc, dd⟩) hx (reads_bk' e3 rfl (Nat.lt_succ_self _)) (by intro u hu; simp [dec] at hu; rcases hu with rfl | rfl | rfl | rfl <;> rfl) (by simp only [maxLen]; omega) (by omega) hB ?_
            intro v w' hown hg hat
            exact hK _ _ (hJ.step7 (by decide) hB h4 hf h11 hown hg)
          · cases (show some _ = some o from ho)
            refine ite_yes (by rfl) ?_
            have h0 : b.tmps.getD 0 undef = _ := hfr 0 (noDst_of (by kernel_rfl))
            have f0 := getD_opt h0
            have HK := Lib.hid hK; have HJ := Lib.hid hJ
            clear hK hJ hcl hrd hfr hsz ho
            go_simp
            exact HK.out _ _ (HJ.out.pure 8 37 _ (by decide) (by decide) (by decide) (by intro e; cases e) (by intro e; cases e) (by intro e; cases e) (by intro e; cases e) (fun _ => rfl) (by intro e; cases e) (by intro e; cases e) (by intro e; cases e))
          · cases (show some _ = some o from ho)
            refine ite_yes (by rfl) ?_
            have h6 : b.tmps.getD 6 undef = _ := hfr 6 (noDst_of (by kernel_rfl))
            have f6 := getD_opt h6
            have HK := Lib.hid hK; have HJ := Lib.hid hJ
            clear hK hJ hcl hrd hfr hsz ho
            go_simp
            exact HK.out _ _ (HJ.out.pure 9 38 _ (by decide) (by decide) (by decide) (by intro e; cases e) (by intro e; cases e) (by intro e; cases e) (by intro e; cases e) (by intro e; cases e) (fun _ => rfl) (by intro e; cases e) (by intro e; cases e))
          · cases (show some _ = some o from ho)
            refine ite_yes (by rfl) ?_
            have h37 : b.tmps.getD 37 undef = _ := hJ.m8 (hrd ⟨8, .data⟩ (by simp) rfl)
            have f37 := getD_opt h37
            have h38 : b.tmps.getD 38 undef = _ := hJ.m9 (hrd ⟨9, .data⟩ (by simp) rfl)
            have f38 := getD_opt h38
            have HK := Lib.hid hK; have HJ := Lib.hid hJ
            clear hK hJ hcl hrd hfr hsz ho
            by_cases hck : c = k
            · have hR := R2.out
              rw [if_pos hck] at hR
              subst hck
              go_simp
              exact HK.out _ _ (HJ.out.pure 10 39 _ (by decide) (by decide) (by decide) (by intro e; cases e) (by intro e; cases e) (by intro e; cases e) (by intro e; cases e) (by intro e; cases e) (by intro e; cases e) (fun _ => ⟨_, 0, by rw [show n - c = 0 by omega], hR⟩) (by intro e; cases e))
            · have hR := R2.out
              rw [if_neg hck] at hR
              go_simp
              exact HK.out _ _ (HJ.out.pure 10 39 _ (by decide) (by decide) (by decide) (by intro e; cases e) (by intro e; cases e) (by intro e; cases e) (by intro e; cases e) (by intro e; cases e) (by intro e; cases e) (fun _ => ⟨_, _, rfl, hR⟩) (by intro e; cases e))
          · cases (show some _ = some o from ho)
            refine ite_yes (by rfl) ?_
            have h7 : f 7 = true := hrd ⟨7, .data⟩ (by simp) rfl
            have h10 : f 10 = true := hrd ⟨10, .data⟩ (by simp) rfl
            have h4 : f 4 = true := hcl 7 _ ⟨4, .data⟩ rfl h7 (by simp) rfl
            have h12 := c1211 hf
            have hr := hJ.r7 h7 hf
            obtain ⟨A', c', e1, hR⟩ := hJ.m10 h10
            have hx : b.tmps.getD 39 undef = .slice A' (n - k) c' := e1
            refine wp_append_any wb _ _ 23 rfl wq.heap.size 25 i0 _ 4 40 Try.underlying23 HI.out HZ0.out HZ1.out HZ2.out rfl (by omega) _ (k + 1) _ rfl hr wq.heap.size A' (n - k) c' (des (l.drop k)) hx (hR.below hJ.below) (des_oneC _) (by simp only [maxLen]; omega) (by omega) hB ?_
            intro v w' hown hg hat
            exact hK _ _ (hJ.step11 (by decide) hB h4 h7 hf h12 hown hg)
          · cases (show some _ = some o from ho)
            refine ite_yes (by rfl) ?_
            obtain ⟨A', c', h40, _, _, _⟩ := own_form (hJ.r11 (hrd ⟨11, .data⟩ (by simp) rfl))
            have h40 : b.tmps.getD 40 undef = .slice A' (k + 1 + (n - k)) c' := h40
            have f40 := getD_opt h40
            have HK := Lib.hid hK; have HJ := Lib.hid hJ; have H40 := Lib.hid h40
            clear hK hJ hcl hrd hfr hsz ho h40
            go_simp
            exact HK.out _ _ (HJ.out.pure 12 7 _ (by decide) (by decide) (by decide) (by intro e; cases e) (by intro e; cases e) (by intro e; cases e) (by intro e; cases e) (by intro e; cases e) (by intro e; cases e) (by intro e; cases e) (fun _ => H40.out.symm))
        · intro f b wb hall hsz hdf hfr hJ
          have h11 := hJ.r11 (hall 11 (by decide))
          have h12 : b.tmps.getD 7 undef = b.tmps.getD 40 undef := hJ.r12 (hall 12 (by decide))
          have HBL := Lib.hid hJ.below
          have hn1 : k + 1 + (n - k) = n + 1 := by omega
          have hM : des (l.take k) ++ dec ⟨da, db, dc, dd⟩ ++ des (l.drop k) = des (adM l ⟨da, db, dc, dd⟩) := by
            unfold adM; rw [← HKN.out, des_app, des_app, des_one]
          rw [hn1, hM] at h11
          have h11 : wb.ownsRow wq.heap.size 25 4 (b.tmps.getD 40 undef) (n + 1) (des (adM l ⟨da, db, dc, dd⟩)) := h11
          rw [← h12] at h11
          obtain ⟨A7, c7, e7, hnc7, hcm7, _⟩ := own_form h11
          rw [e7] at h11
          have HO7 := Lib.hid (own_less h11 HBQ.out.size); have HN7 : Hid (n + 1 ≤ maxLen) := Lib.hid (Nat.le_trans hnc7 hcm7)
          clear hJ hall h11 h12 hnc7 hcm7 hM
          obtain ⟨tm, df⟩ := b
          obtain rfl : df = [] := hdf
          have q0 : tm.getD 0 undef = .slice A n c := hfr 0 (noDst_of (by kernel_rfl))
          have q4 : tm.getD 4 undef = .slice none 0 0 := hfr 4 (noDst_of (by kernel_rfl))
          have q5 : tm.getD 5 undef = .bool false := hfr 5 (noDst_of (by kernel_rfl))
          have q7 : tm.getD 7 undef = .slice A7 (n + 1) c7 := e7
          have q := lit_of tm 48 hsz
          simp only [List.range, List.range.loop, List.map, q0, q4, q5, q7] at q
          have HQ := Lib.hid q
          clear q hsz hfr q0 q4 q5 q7 e7
          rw [HQ.out]
          generalize tm.getD 1 undef = x1
          generalize tm.getD 2 undef = x2
          generalize tm.getD 3 undef = x3
          generalize tm.getD 6 undef = x6
          generalize tm.getD 8 undef = x8
          generalize tm.getD 9 undef = x9
          generalize tm.getD 10 undef = x10
          generalize tm.getD 11 undef = x11
          generalize tm.getD 12 undef = x12
          generalize tm.getD 13 undef = x13
          generalize tm.getD 14 undef = x14
          generalize tm.getD 15 undef = x15
          generalize tm.getD 16 undef = x16
          generalize tm.getD 17 undef = x17
          generalize tm.getD 18 undef = x18
          generalize tm.getD 19 undef = x19
          generalize tm.getD 20 undef = x20
          generalize tm.getD 21 undef = x21
          generalize tm.getD 22 undef = x22
          generalize tm.getD 23 undef = x23
          generalize tm.getD 24 undef = x24
          generalize tm.getD 25 undef = x25
          generalize tm.getD 26 undef = x26
          generalize tm.getD 27 undef = x27
          generalize tm.getD 28 undef = x28
          generalize tm.getD 29 undef = x29
          generalize tm.getD 30 undef = x30
          generalize tm.getD 31 undef = x31
          generalize tm.getD 32 undef = x32
          generalize tm.getD 33 undef = x33
          generalize tm.getD 34 undef = x34
          generalize tm.getD 35 undef = x35
          generalize tm.getD 36 undef = x36
          generalize tm.getD 37 undef = x37
          generalize tm.getD 38 undef = x38
          generalize tm.getD 39 undef = x39
          generalize tm.getD 40 undef = x40
          generalize tm.getD 41 undef = x41
          generalize tm.getD 42 undef = x42
          generalize tm.getD 43 undef = x43
          generalize tm.getD 44 undef = x44
          generalize tm.getD 45 undef = x45
          generalize tm.getD 46 undef = x46
          generalize tm.getD 47 undef = x47
          clear HQ
          have HB8 := Lib.hid (HBQ.out.trans (HBL.out.mono HBQ.out.size))
          have HRB := Lib.hid (HRD.out.below HBL.out)
          go_wp2_with fail
          refine (sde_any _ _ _ (adM l ⟨da, db, dc, dd⟩) _ (rd_own HO7.out) HN7.out (adM_small HS.out HD.out)).mono ?_
          cases hv2 : deB (adM l ⟨da, db, dc, dd⟩)
          · rintro e w3 ⟨rfl, hb3⟩
            have HE : Hid (R = l ∧ bR = false) := Lib.hid (by rw [← HR.out, ← HBR.out]; exact adL_no HV.out hv2)
            have HB3 := Lib.hid (belB HB8.out HB8.out.size hb3)
            have HR3 := Lib.hid (HRB.out.below hb3)
            clear hb3 hv2
            go_wp2_with (first
              | (at_builtin
                 refine wpList_append_any _ rfl _ _ 23 rfl w.heap.size 25 i0 _ 4 40 Try.underlying23 HI.out HZ0.out HZ1.out HZ2.out rfl (by omega) (.slice (some ⟨w3.heap.size, 0, none⟩) 0 0) 0 [] rfl (own_less (World.ownsRow_made w3 #[] 0 (Nat.le_refl _) (by simp) (by simp)) HB3.out.size) w3.heap.size A n c (des l) rfl ((reads_of_rd HR3.out (by omega)).alloc (Nat.le_refl _) _) (des_oneC l) (by simp only [maxLen]; omega) (by omega) (by simp; have := HB3.out.size; omega) ?_
                 intro v1 w4 hown1 hg1 hat1
                 have HO4 := Lib.hid hown1
                 have HB4 : Hid (Below w.heap.size w w4) := Lib.hid ((HB3.out.alloc HB3.out.size _).grown hg1 (by simp; have := HB3.out.size; omega) (by intro k hk; simp [Value.ownBlock] at hk; have := HB3.out.size; omega))
                 clear hown1 hg1 hat1))
            go_wp2_with fail
            go_ret2
            exact ⟨_, by rw [HE.out.2]; rfl, by rw [HE.out.1, HLL.out]; have := HO4.out; simpa using this, HB4.out⟩
          · rintro e w3 ⟨rfl, hb3⟩
            have HE : Hid (R = adM l ⟨da, db, dc, dd⟩ ∧ bR = true) := Lib.hid (by rw [← HR.out, ← HBR.out]; exact adL_yes HV.out hv2)
            have HB3 := Lib.hid (belB HB8.out HB8.out.size hb3)
            have HO3 := Lib.hid (own_below HO7.out hb3)
            clear hb3 hv2
            go_wp2_with fail
            go_ret2
            exact ⟨_, by rw [HE.out.2]; rfl, by rw [HE.out.1, adM_len, HLL.out]; exact HO3.out, HB3.out⟩
end Go.Proofs.Ytadgmncngkkdnaa
