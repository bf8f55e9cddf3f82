/-
  The walk of FnExactKeepFans.
-/
import Derived.Test.YtajfglcoigklnaaKeepFans2
import Derived.Test.YtajfglcoigklnaaListFBlock
import Derived.Test.YtajfglcoigklnaaListFHandle
import Derived.Test.YtajfglcoigklnaaMarkBlock
import Derived.Test.YtajfglcoigklnaaMarkHandle
namespace Go.Proofs.Ytajfglcoigklnaa
open Go.ChangeShapes Go.WideShapes Go.ChangeAt Go.RowKit Go.Joins
set_option linter.unusedVariables false

set_option maxRecDepth 100000 in
set_option maxHeartbeats 16000000 in
theorem exKeepFans (A : Option Addr) (n c : Nat) (l : List Bl) (B : Option Addr) (m d : Nat) (f : List Ha) (w : World) (h : Rd w 3 A n (bls l) ∧ n ≤ maxLen ∧ ∀ z ∈ l, z.a.size ≤ maxLen) (h' : Rd w 2 B m (has f) ∧ m ≤ maxLen ∧ ∀ z ∈ f, z.a.size ≤ maxLen ∧ z.b.size ≤ maxLen) :
    Calls Try.prog 10 #[.slice A n c, .slice B m d] w fun e w' => e = .returned (.bool true) ∧ Below w.heap.size w w' := by
  obtain ⟨h1, hx, hs⟩ := h
  obtain ⟨h2, hx2, hs2⟩ := h'
  have hl1 := rd_bllen h1
  have hl2 := rd_halen h2
  have H1 := Lib.hid h1; have HS := Lib.hid hs; have HX := Lib.hid hx; have H2 := Lib.hid h2; have HS2 := Lib.hid hs2; have HX2 := Lib.hid hx2
  generalize hr : blL l 1048576 = r
  have hfit : 0 ≤ r → n ≤ 1048576 := fun h0 => by
    rw [← hr, blL, hl1] at h0
    split at h0 <;> omega
  have hr1 : r ≤ 1048576 := by rw [← hr, blL]; split <;> omega
  have HR := Lib.hid hr
  generalize hr2 : haL f r = r2
  have hfit2 : 0 ≤ r → 0 ≤ r2 → m ≤ 1048576 := fun h00 h0 => by
    rw [← hr2, haL, hl2] at h0
    split at h0 <;> omega
  have HR2 := Lib.hid hr2
  have hll : (kfL l f).length ≤ m := by rw [← hl2]; exact kfL_len l f
  clear h1 hs hx hr hl1 h2 hs2 hx2 hl2 hr2
  generalize hb : kfL l f = R at *
  generalize hrn : R.length = t at *
  have HY := Lib.hid hb; have HRN := Lib.hid hrn
  clear hb hrn
  by_cases h0 : 0 ≤ r
  · have hn := hfit h0
    have HN := Lib.hid hn
    by_cases h02 : 0 ≤ r2
    · have hm := hfit2 h0 h02
      have ht : t ≤ 1048576 := by omega
      have HM := Lib.hid hm; have HT := Lib.hid ht
      clear hfit hfit2 hll
      go_enter Try.func10, Try.ntmps10
      go_wp2_with fail
      refine (szBlS_any _ _ _ _ _ _ H1.out HX.out HS.out (by omega) (by omega)).mono ?_
      rw [HR.out]
      rintro e x1 ⟨rfl, hb⟩
      have HB1 : Hid (Below w.heap.size w x1) := Lib.hid (belt (Below.refl w.heap.size w) hb)
      clear hb
      go_wp2_with fail
      refine (szHaS_any _ _ _ _ _ _ (H2.out.below HB1.out) HX2.out HS2.out (by omega) (by omega)).mono ?_
      rw [HR2.out]
      rintro e x2 ⟨rfl, hb⟩
      have HB2 : Hid (Below w.heap.size w x2) := Lib.hid (belt HB1.out hb)
      clear HB1 hb
      go_wp2_with fail
      refine (toBlS_any _ _ _ _ _ (H1.out.below HB2.out) HN.out).mono ?_
      rintro e x3 ⟨v, rfl, ho, hb⟩
      have HB3 : Hid (Below w.heap.size w x3) := Lib.hid (belt HB2.out hb)
      obtain ⟨Aa, ca, rfl, hc1, hc2, _⟩ := own_form ho
      have Ra_3 := Lib.hid ho
      have hbase := HB2.out.size
      have HBSa : Hid (w.heap.size ≤ x2.heap.size) := Lib.hid hbase
      clear HB2 ho hc1 hc2 hbase hb
      have HCa := Lib.hid (own_cap Ra_3.out)
      go_wp2_with fail
      refine (toHaS_any _ _ _ _ _ (H2.out.below HB3.out) HM.out).mono ?_
      rintro e x4 ⟨v, rfl, ho, hb⟩
      have HB4 : Hid (Below w.heap.size w x4) := Lib.hid (belt HB3.out hb)
      have Ra_4 := Lib.hid (own_below Ra_3.out hb)
      obtain ⟨Aaf, caf, rfl, hc1, hc2, _⟩ := own_form ho
      have Raf_4 := Lib.hid ho
      have hbase := HB3.out.size
      have HBSaf : Hid (w.heap.size ≤ x3.heap.size) := Lib.hid hbase
      have AP_a_af := Lib.hid (own_apart Ra_3.out ho (Nat.le_refl _))
      clear Ra_3 HB3 ho hc1 hc2 hbase hb
      have HCaf := Lib.hid (own_cap Raf_4.out)
      go_wp2_with fail
      refine (skf_any _ _ _ _ _ _ _ _ _ (rd_own Ra_4.out) HCa.out.1 HCa.out.2 HS.out (rd_own Raf_4.out) HM.out HCaf.out.1 HCaf.out.2 HS2.out).mono ?_
      rw [HY.out, HRN.out]
      rintro e x5 ⟨v, rfl, ho, hb⟩
      have HB5 : Hid (Below w.heap.size w x5) := Lib.hid (belt HB4.out hb)
      have Ra_5 := Lib.hid (own_below Ra_4.out hb)
      have Raf_5 := Lib.hid (own_below Raf_4.out hb)
      obtain ⟨As, cs, rfl, hc1, hc2, _⟩ := own_form ho
      have Rs_5 := Lib.hid ho
      have hbase := HB4.out.size
      have HBSs : Hid (w.heap.size ≤ x4.heap.size) := Lib.hid hbase
      have AP_a_s := Lib.hid (own_apart Ra_4.out ho (Nat.le_refl _))
      have AP_af_s := Lib.hid (own_apart Raf_4.out ho (Nat.le_refl _))
      clear Ra_4 Raf_4 HB4 ho hc1 hc2 hbase hb
      clear Ra_5
      clear Raf_5
      go_wp2_with fail
      refine (toBlS_any _ _ _ _ _ (H1.out.below HB5.out) HN.out).mono ?_
      rintro e x6 ⟨v, rfl, ho, hb⟩
      have HB6 : Hid (Below w.heap.size w x6) := Lib.hid (belt HB5.out hb)
      have Rs_6 := Lib.hid (own_below Rs_5.out hb)
      obtain ⟨Ax, cx, rfl, hc1, hc2, _⟩ := own_form ho
      have Rx_6 := Lib.hid ho
      have hbase := HB5.out.size
      have HBSx : Hid (w.heap.size ≤ x5.heap.size) := Lib.hid hbase
      have AP_s_x := Lib.hid (own_apart Rs_5.out ho (Nat.le_refl _))
      clear Rs_5 HB5 ho hc1 hc2 hbase hb
      have HCx := Lib.hid (own_cap Rx_6.out)
      go_wp2_with fail
      refine (toHaS_any _ _ _ _ _ (H2.out.below HB6.out) HM.out).mono ?_
      rintro e x7 ⟨v, rfl, ho, hb⟩
      have HB7 : Hid (Below w.heap.size w x7) := Lib.hid (belt HB6.out hb)
      have Rs_7 := Lib.hid (own_below Rs_6.out hb)
      have Rx_7 := Lib.hid (own_below Rx_6.out hb)
      obtain ⟨Axf, cxf, rfl, hc1, hc2, _⟩ := own_form ho
      have Rxf_7 := Lib.hid ho
      have hbase := HB6.out.size
      have HBSxf : Hid (w.heap.size ≤ x6.heap.size) := Lib.hid hbase
      have AP_s_xf := Lib.hid (own_apart Rs_6.out ho (Nat.le_refl _))
      have AP_x_xf := Lib.hid (own_apart Rx_6.out ho (Nat.le_refl _))
      clear Rs_6 Rx_6 HB6 ho hc1 hc2 hbase hb
      have HCxf := Lib.hid (own_cap Rxf_7.out)
      go_wp2_with fail
      refine (ikf_any _ _ _ _ _ _ _ _ _ (rd_own Rx_7.out) HCx.out.1 HCx.out.2 HS.out (rd_own Rxf_7.out) HM.out HCxf.out.1 HCxf.out.2 HS2.out).mono ?_
      rw [HY.out, HRN.out]
      rintro e x8 ⟨v, rfl, ho, hb⟩
      have HB8 : Hid (Below w.heap.size w x8) := Lib.hid (belt HB7.out hb)
      have Rs_8 := Lib.hid (own_below Rs_7.out hb)
      have Rx_8 := Lib.hid (own_below Rx_7.out hb)
      have Rxf_8 := Lib.hid (own_below Rxf_7.out hb)
      obtain ⟨Ag, cg, rfl, hc1, hc2, _⟩ := own_form ho
      have Rg_8 := Lib.hid ho
      have hbase := HB7.out.size
      have HBSg : Hid (w.heap.size ≤ x7.heap.size) := Lib.hid hbase
      have AP_s_g := Lib.hid (own_apart Rs_7.out ho (Nat.le_refl _))
      have AP_x_g := Lib.hid (own_apart Rx_7.out ho (Nat.le_refl _))
      have AP_xf_g := Lib.hid (own_apart Rxf_7.out ho (Nat.le_refl _))
      clear Rs_7 Rx_7 Rxf_7 HB7 ho hc1 hc2 hbase hb
      go_wp2_with fail
      refine (eqHaS_same _ _ _ _ _ _ _ (rd_own Rg_8.out) (rd_own Rs_8.out) HT.out).mono ?_
      rintro e x9 ⟨rfl, hb⟩
      have HB9 : Hid (Below w.heap.size w x9) := Lib.hid (belt HB8.out hb)
      have Rs_9 := Lib.hid (own_below Rs_8.out hb)
      have Rx_9 := Lib.hid (own_below Rx_8.out hb)
      have Rxf_9 := Lib.hid (own_below Rxf_8.out hb)
      have Rg_9 := Lib.hid (own_below Rg_8.out hb)
      clear Rs_8 Rx_8 Rxf_8 Rg_8 HB8 hb
      go_wp2_with fail
      refine (toBlS_any _ _ _ _ _ (H1.out.below HB9.out) HN.out).mono ?_
      rintro e x10 ⟨v, rfl, ho, hb⟩
      have HB10 : Hid (Below w.heap.size w x10) := Lib.hid (belt HB9.out hb)
      have Rs_10 := Lib.hid (own_below Rs_9.out hb)
      have Rx_10 := Lib.hid (own_below Rx_9.out hb)
      have Rxf_10 := Lib.hid (own_below Rxf_9.out hb)
      have Rg_10 := Lib.hid (own_below Rg_9.out hb)
      obtain ⟨Ab, cb, rfl, hc1, hc2, _⟩ := own_form ho
      have Rb_10 := Lib.hid ho
      have hbase := HB9.out.size
      have HBSb : Hid (w.heap.size ≤ x9.heap.size) := Lib.hid hbase
      have AP_s_b := Lib.hid (own_apart Rs_9.out ho (Nat.le_refl _))
      have AP_x_b := Lib.hid (own_apart Rx_9.out ho (Nat.le_refl _))
      have AP_xf_b := Lib.hid (own_apart Rxf_9.out ho (Nat.le_refl _))
      have AP_g_b := Lib.hid (own_apart Rg_9.out ho (Nat.le_refl _))
      clear Rs_9 Rx_9 Rxf_9 Rg_9 HB9 ho hc1 hc2 hbase hb
      have HCb := Lib.hid (own_cap Rb_10.out)
      go_wp2_with fail
      refine (eqBlS_same _ _ _ _ _ _ _ (rd_own Rx_10.out) (rd_own Rb_10.out) HN.out).mono ?_
      rintro e x11 ⟨rfl, hb⟩
      have HB11 : Hid (Below w.heap.size w x11) := Lib.hid (belt HB10.out hb)
      have Rs_11 := Lib.hid (own_below Rs_10.out hb)
      have Rx_11 := Lib.hid (own_below Rx_10.out hb)
      have Rxf_11 := Lib.hid (own_below Rxf_10.out hb)
      have Rg_11 := Lib.hid (own_below Rg_10.out hb)
      have Rb_11 := Lib.hid (own_below Rb_10.out hb)
      clear Rs_10 Rx_10 Rxf_10 Rg_10 Rb_10 HB10 hb
      clear Rb_11
      go_wp2_with fail
      refine (toHaS_any _ _ _ _ _ (H2.out.below HB11.out) HM.out).mono ?_
      rintro e x12 ⟨v, rfl, ho, hb⟩
      have HB12 : Hid (Below w.heap.size w x12) := Lib.hid (belt HB11.out hb)
      have Rs_12 := Lib.hid (own_below Rs_11.out hb)
      have Rx_12 := Lib.hid (own_below Rx_11.out hb)
      have Rxf_12 := Lib.hid (own_below Rxf_11.out hb)
      have Rg_12 := Lib.hid (own_below Rg_11.out hb)
      obtain ⟨Abf, cbf, rfl, hc1, hc2, _⟩ := own_form ho
      have Rbf_12 := Lib.hid ho
      have hbase := HB11.out.size
      have HBSbf : Hid (w.heap.size ≤ x11.heap.size) := Lib.hid hbase
      have AP_s_bf := Lib.hid (own_apart Rs_11.out ho (Nat.le_refl _))
      have AP_x_bf := Lib.hid (own_apart Rx_11.out ho (Nat.le_refl _))
      have AP_xf_bf := Lib.hid (own_apart Rxf_11.out ho (Nat.le_refl _))
      have AP_g_bf := Lib.hid (own_apart Rg_11.out ho (Nat.le_refl _))
      clear Rs_11 Rx_11 Rxf_11 Rg_11 HB11 ho hc1 hc2 hbase hb
      have HCbf := Lib.hid (own_cap Rbf_12.out)
      go_wp2_with fail
      refine (eqHaS_same _ _ _ _ _ _ _ (rd_own Rxf_12.out) (rd_own Rbf_12.out) HM.out).mono ?_
      rintro e x13 ⟨rfl, hb⟩
      have HB13 : Hid (Below w.heap.size w x13) := Lib.hid (belt HB12.out hb)
      have Rs_13 := Lib.hid (own_below Rs_12.out hb)
      have Rx_13 := Lib.hid (own_below Rx_12.out hb)
      have Rxf_13 := Lib.hid (own_below Rxf_12.out hb)
      have Rg_13 := Lib.hid (own_below Rg_12.out hb)
      have Rbf_13 := Lib.hid (own_below Rbf_12.out hb)
      clear Rs_12 Rx_12 Rxf_12 Rg_12 Rbf_12 HB12 hb
      clear Rbf_13
      go_wp2_with fail
      refine (markBl_any _ _ _ _ _ _ _ Rx_13.out HN.out (by omega) (by omega)).mono ?_
      rintro e x14 ⟨rfl, hown, hg⟩
      have HB14 : Hid (Below w.heap.size w x14) := Lib.hid (below_grown HB13.out hg Rx_13.out (by exact HBSx.out) HB13.out.size)
      have Rs_14 := Lib.hid (Rs_13.out.kept hg AP_s_x.out.1)
      have Rxf_14 := Lib.hid (Rxf_13.out.kept hg AP_x_xf.out.2)
      have Rg_14 := Lib.hid (Rg_13.out.kept hg AP_x_g.out.2)
      have Rx_14 := Lib.hid hown
      clear Rs_13 Rx_13 Rxf_13 Rg_13 HB13 hown hg
      clear Rx_14
      go_wp2_with fail
      refine (markHa_any _ _ _ _ _ _ _ Rxf_14.out HM.out (by omega) (by omega)).mono ?_
      rintro e x15 ⟨rfl, hown, hg⟩
      have HB15 : Hid (Below w.heap.size w x15) := Lib.hid (below_grown HB14.out hg Rxf_14.out (by exact HBSxf.out) HB14.out.size)
      have Rs_15 := Lib.hid (Rs_14.out.kept hg AP_s_xf.out.1)
      have Rg_15 := Lib.hid (Rg_14.out.kept hg AP_xf_g.out.2)
      have Rxf_15 := Lib.hid hown
      clear Rs_14 Rxf_14 Rg_14 HB14 hown hg
      clear Rxf_15
      go_wp2_with fail
      refine (eqHaS_same _ _ _ _ _ _ _ (rd_own Rg_15.out) (rd_own Rs_15.out) HT.out).mono ?_
      rintro e x16 ⟨rfl, hb⟩
      have HB16 : Hid (Below w.heap.size w x16) := Lib.hid (belt HB15.out hb)
      have Rs_16 := Lib.hid (own_below Rs_15.out hb)
      have Rg_16 := Lib.hid (own_below Rg_15.out hb)
      clear Rs_15 Rg_15 HB15 hb
      go_wp2_with fail
      refine (markHa_any _ _ _ _ _ _ _ Rg_16.out HT.out (by omega) (by omega)).mono ?_
      rintro e x17 ⟨rfl, hown, hg⟩
      have HB17 : Hid (Below w.heap.size w x17) := Lib.hid (below_grown HB16.out hg Rg_16.out (by exact HBSg.out) HB16.out.size)
      have Rs_17 := Lib.hid (Rs_16.out.kept hg AP_s_g.out.1)
      have Rg_17 := Lib.hid hown
      clear Rs_16 Rg_16 HB16 hown hg
      go_wp2_with fail
      refine (heldHa_any _ _ _ _ _ (rd_own Rg_17.out) HT.out (by omega) (by omega)).mono ?_
      rintro e x18 ⟨rfl, hb⟩
      have HB18 : Hid (Below w.heap.size w x18) := Lib.hid (belt HB17.out hb)
      have Rs_18 := Lib.hid (own_below Rs_17.out hb)
      have Rg_18 := Lib.hid (own_below Rg_17.out hb)
      clear Rs_17 Rg_17 HB17 hb
      go_wp2_with fail
      refine (toBlS_any _ _ _ _ _ (H1.out.below HB18.out) HN.out).mono ?_
      rintro e x19 ⟨v, rfl, ho, hb⟩
      have HB19 : Hid (Below w.heap.size w x19) := Lib.hid (belt HB18.out hb)
      have Rs_19 := Lib.hid (own_below Rs_18.out hb)
      have Rg_19 := Lib.hid (own_below Rg_18.out hb)
      obtain ⟨Ad1, cd1, rfl, hc1, hc2, _⟩ := own_form ho
      have Rd1_19 := Lib.hid ho
      have hbase := HB18.out.size
      have HBSd1 : Hid (w.heap.size ≤ x18.heap.size) := Lib.hid hbase
      have AP_s_d1 := Lib.hid (own_apart Rs_18.out ho (Nat.le_refl _))
      have AP_g_d1 := Lib.hid (own_apart Rg_18.out ho (Nat.le_refl _))
      clear Rs_18 Rg_18 HB18 ho hc1 hc2 hbase hb
      have HCd1 := Lib.hid (own_cap Rd1_19.out)
      go_wp2_with fail
      refine (toHaS_any _ _ _ _ _ (H2.out.below HB19.out) HM.out).mono ?_
      rintro e x20 ⟨v, rfl, ho, hb⟩
      have HB20 : Hid (Below w.heap.size w x20) := Lib.hid (belt HB19.out hb)
      have Rs_20 := Lib.hid (own_below Rs_19.out hb)
      have Rg_20 := Lib.hid (own_below Rg_19.out hb)
      have Rd1_20 := Lib.hid (own_below Rd1_19.out hb)
      obtain ⟨Ad2, cd2, rfl, hc1, hc2, _⟩ := own_form ho
      have Rd2_20 := Lib.hid ho
      have hbase := HB19.out.size
      have HBSd2 : Hid (w.heap.size ≤ x19.heap.size) := Lib.hid hbase
      have AP_s_d2 := Lib.hid (own_apart Rs_19.out ho (Nat.le_refl _))
      have AP_g_d2 := Lib.hid (own_apart Rg_19.out ho (Nat.le_refl _))
      have AP_d1_d2 := Lib.hid (own_apart Rd1_19.out ho (Nat.le_refl _))
      clear Rs_19 Rg_19 Rd1_19 HB19 ho hc1 hc2 hbase hb
      have HCd2 := Lib.hid (own_cap Rd2_20.out)
      go_wp2_with fail
      refine (ikf_any _ _ _ _ _ _ _ _ _ (rd_own Rd1_20.out) HCd1.out.1 HCd1.out.2 HS.out (rd_own Rd2_20.out) HM.out HCd2.out.1 HCd2.out.2 HS2.out).mono ?_
      rw [HY.out, HRN.out]
      rintro e x21 ⟨v, rfl, ho, hb⟩
      have HB21 : Hid (Below w.heap.size w x21) := Lib.hid (belt HB20.out hb)
      have Rs_21 := Lib.hid (own_below Rs_20.out hb)
      have Rg_21 := Lib.hid (own_below Rg_20.out hb)
      have Rd1_21 := Lib.hid (own_below Rd1_20.out hb)
      have Rd2_21 := Lib.hid (own_below Rd2_20.out hb)
      obtain ⟨Ah, ch, rfl, hc1, hc2, _⟩ := own_form ho
      have Rh_21 := Lib.hid ho
      have hbase := HB20.out.size
      have HBSh : Hid (w.heap.size ≤ x20.heap.size) := Lib.hid hbase
      have AP_s_h := Lib.hid (own_apart Rs_20.out ho (Nat.le_refl _))
      have AP_g_h := Lib.hid (own_apart Rg_20.out ho (Nat.le_refl _))
      have AP_d1_h := Lib.hid (own_apart Rd1_20.out ho (Nat.le_refl _))
      have AP_d2_h := Lib.hid (own_apart Rd2_20.out ho (Nat.le_refl _))
      clear Rs_20 Rg_20 Rd1_20 Rd2_20 HB20 ho hc1 hc2 hbase hb
      clear Rd1_21
      clear Rd2_21
      go_wp2_with fail
      refine (eqHaS_same _ _ _ _ _ _ _ (rd_own Rh_21.out) (rd_own Rs_21.out) HT.out).mono ?_
      rintro e x22 ⟨rfl, hb⟩
      have HB22 : Hid (Below w.heap.size w x22) := Lib.hid (belt HB21.out hb)
      have Rs_22 := Lib.hid (own_below Rs_21.out hb)
      have Rg_22 := Lib.hid (own_below Rg_21.out hb)
      have Rh_22 := Lib.hid (own_below Rh_21.out hb)
      clear Rs_21 Rg_21 Rh_21 HB21 hb
      clear Rh_22
      clear Rs_22
      go_wp2_with fail
      refine (heldHa_any _ _ _ _ _ (rd_own Rg_22.out) HT.out (by omega) (by omega)).mono ?_
      rintro e x23 ⟨rfl, hb⟩
      have HB23 : Hid (Below w.heap.size w x23) := Lib.hid (belt HB22.out hb)
      have Rg_23 := Lib.hid (own_below Rg_22.out hb)
      clear Rg_22 HB22 hb
      go_wp2
      go_ret
      exact ⟨rfl, HB23.out⟩
    · have h0' : r2 < 0 := by omega
      clear hfit hfit2
      go_enter Try.func10, Try.ntmps10
      go_wp2_with fail
      refine (szBlS_any _ _ _ _ _ _ H1.out HX.out HS.out (by omega) (by omega)).mono ?_
      rw [HR.out]
      rintro e x1 ⟨rfl, hb⟩
      have HB := Lib.hid hb
      clear hb
      go_wp2_with fail
      refine (szHaS_any _ _ _ _ _ _ (H2.out.below HB.out) HX2.out HS2.out (by omega) (by omega)).mono ?_
      rw [HR2.out]
      rintro e x2 ⟨rfl, hb⟩
      have HB2 := Lib.hid (belt HB.out hb)
      clear hb
      go_wp2
      go_ret
      exact ⟨rfl, HB2.out⟩
  · have h0' : r < 0 := by omega
    clear hfit hfit2 h0
    go_enter Try.func10, Try.ntmps10
    go_wp2_with fail
    refine (szBlS_any _ _ _ _ _ _ H1.out HX.out HS.out (by omega) (by omega)).mono ?_
    rw [HR.out]
    rintro e x1 ⟨rfl, hb⟩
    have HB := Lib.hid hb
    clear hb
    go_wp2
    go_ret
    exact ⟨rfl, HB.out⟩
end Go.Proofs.Ytajfglcoigklnaa
