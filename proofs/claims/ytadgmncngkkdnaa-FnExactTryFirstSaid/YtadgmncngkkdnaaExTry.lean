/-
  The walk of FnExactTryFirst.
-/
import Derived.Test.YtadgmncngkkdnaaTrySpec
import Derived.Test.YtadgmncngkkdnaaListFDelivery
import Derived.Test.YtadgmncngkkdnaaMarkDelivery
import Derived.Test.YtadgmncngkkdnaaRdB
namespace Go.Proofs.Ytadgmncngkkdnaa
open Go.ChangeShapes Go.WideShapes Go.ChangeAt Go.RowKit Go.Joins
set_option linter.unusedVariables false

set_option maxRecDepth 100000 in
set_option maxHeartbeats 8000000 in
theorem exTryFirst (A : Option Addr) (n c : Nat) (l : List De) (now : Int) (arr : Bool) (w : World) (h : Rd w 4 A n (des l) ∧ n ≤ maxLen ∧ ∀ z ∈ l, z.b.size ≤ maxLen) :
    Calls Try.prog 6 #[.slice A n c, .int .i64 now, .bool arr] w fun e w' => e = .returned (.bool true) ∧ Below w.heap.size w w' := by
  obtain ⟨h1, hx, hs⟩ := h
  have hl1 := rd_delen h1
  have H1 := Lib.hid h1; have HS := Lib.hid hs; have HX := Lib.hid hx
  generalize hr : deL l 1048576 = r
  have hfit : 0 ≤ r → n ≤ 1048576 := fun h0 => by
    rw [← hr, deL, hl1] at h0
    split at h0 <;> omega
  have HR := Lib.hid hr
  have hll : (tfR l now arr).1.length ≤ n := by rw [← hl1]; exact tfR_len l now arr
  clear h1 hs hx hr hl1
  generalize hb : tfR l now arr = RR at *
  obtain ⟨R, rn⟩ := RR
  simp only at hll
  generalize hrn : R.length = m at *
  have HY := Lib.hid hb; have HRN := Lib.hid hrn
  clear hb hrn
  by_cases h0 : 0 ≤ r
  · have hn := hfit h0
    have hm : m ≤ 1048576 := by omega
    have HN := Lib.hid hn; have HM := Lib.hid hm
    clear hfit hll
    go_enter Try.func6, Try.ntmps6
    go_wp2_with fail
    refine (szDeS_any _ _ _ _ _ _ H1.out HX.out HS.out (by omega) (by omega)).mono ?_
    rw [HR.out]
    rintro e x1 ⟨rfl, hb⟩
    have HB1 : Hid (Below w.heap.size w x1) := Lib.hid (belt (Below.refl w.heap.size w) hb)
    clear hb
    go_wp2_with fail
    refine (toDeS_any _ _ _ _ _ (H1.out.below HB1.out) HN.out).mono ?_
    rintro e x2 ⟨v, rfl, ho, hb⟩
    have HB2 : Hid (Below w.heap.size w x2) := Lib.hid (belt HB1.out hb)
    obtain ⟨Aa, ca, rfl, hc1, hc2, _⟩ := own_form ho
    have Ra_2 := Lib.hid ho
    have hbase := HB1.out.size
    have HBSa : Hid (w.heap.size ≤ x1.heap.size) := Lib.hid hbase
    clear HB1 ho hc1 hc2 hbase hb
    have HCa := Lib.hid (own_cap Ra_2.out)
    go_wp2_with fail
    refine (stf_any _ _ _ _ _ _ _ (rd_own Ra_2.out) HN.out HCa.out.1 HCa.out.2 HS.out).mono ?_
    rw [HY.out]
    rintro e x3 ⟨As, ms, cs, rfl, hq, hms, hq1, hq2, hb⟩
    simp only at hms hq
    rw [HRN.out] at hms
    subst hms
    clear hq1 hq2
    have HB3 : Hid (Below w.heap.size w x3) := Lib.hid (belt HB2.out hb)
    have Ra_3 := Lib.hid (own_below Ra_2.out hb)
    clear Ra_2 HB2 hb
    have Qs_3 := Lib.hid (hq).rdB
    have Zs_3 : Hid (x3.heap.size ≤ x3.heap.size) := Lib.hid (Nat.le_refl _)
    clear hq
    clear Ra_3
    go_wp2_with fail
    refine (toDeS_any _ _ _ _ _ (H1.out.below HB3.out) HN.out).mono ?_
    rintro e x4 ⟨v, rfl, ho, hb⟩
    have Qs_4 := Lib.hid (Qs_3.out.keep (hb.mono Zs_3.out))
    have Zs_4 : Hid (x3.heap.size ≤ x4.heap.size) := Lib.hid (Nat.le_trans Zs_3.out hb.size)
    have HB4 : Hid (Below w.heap.size w x4) := Lib.hid (belt HB3.out hb)
    obtain ⟨Ax, cx, rfl, hc1, hc2, _⟩ := own_form ho
    have Rx_4 := Lib.hid ho
    have hbase := HB3.out.size
    have HBSx : Hid (w.heap.size ≤ x3.heap.size) := Lib.hid hbase
    have HQ_s_x : Hid (x3.heap.size ≤ x3.heap.size) := Lib.hid Zs_3.out
    clear Qs_3 Zs_3 HB3 ho hc1 hc2 hbase hb
    have HCx := Lib.hid (own_cap Rx_4.out)
    go_wp2_with fail
    refine (itf_any _ _ _ _ _ _ _ (rd_own Rx_4.out) HN.out HCx.out.1 HCx.out.2 HS.out).mono ?_
    rw [HY.out]
    rintro e x5 ⟨v, rfl, ho, hb⟩
    simp only [HRN.out] at ho
    have Qs_5 := Lib.hid (Qs_4.out.keep (hb.mono Zs_4.out))
    have Zs_5 : Hid (x3.heap.size ≤ x5.heap.size) := Lib.hid (Nat.le_trans Zs_4.out hb.size)
    have HB5 : Hid (Below w.heap.size w x5) := Lib.hid (belt HB4.out hb)
    have Rx_5 := Lib.hid (own_below Rx_4.out hb)
    obtain ⟨Ag, cg, rfl, hc1, hc2, _⟩ := own_form ho
    have Rg_5 := Lib.hid ho
    have hbase := HB4.out.size
    have HBSg : Hid (w.heap.size ≤ x4.heap.size) := Lib.hid hbase
    have AP_x_g := Lib.hid (own_apart Rx_4.out ho (Nat.le_refl _))
    have HQ_s_g : Hid (x3.heap.size ≤ x4.heap.size) := Lib.hid Zs_4.out
    clear Rx_4 Qs_4 Zs_4 HB4 ho hc1 hc2 hbase hb
    go_wp2_with fail
    refine (eqDeS_same _ _ _ _ _ _ _ (rd_own Rg_5.out) (Qs_5.out.rd Zs_5.out) HM.out).mono ?_
    rintro e x6 ⟨rfl, hb⟩
    have Qs_6 := Lib.hid (Qs_5.out.keep (hb.mono Zs_5.out))
    have Zs_6 : Hid (x3.heap.size ≤ x6.heap.size) := Lib.hid (Nat.le_trans Zs_5.out hb.size)
    have HB6 : Hid (Below w.heap.size w x6) := Lib.hid (belt HB5.out hb)
    have Rx_6 := Lib.hid (own_below Rx_5.out hb)
    have Rg_6 := Lib.hid (own_below Rg_5.out hb)
    clear Rx_5 Rg_5 Qs_5 Zs_5 HB5 hb
    go_wp2_with fail
    refine (toDeS_any _ _ _ _ _ (H1.out.below HB6.out) HN.out).mono ?_
    rintro e x7 ⟨v, rfl, ho, hb⟩
    have Qs_7 := Lib.hid (Qs_6.out.keep (hb.mono Zs_6.out))
    have Zs_7 : Hid (x3.heap.size ≤ x7.heap.size) := Lib.hid (Nat.le_trans Zs_6.out hb.size)
    have HB7 : Hid (Below w.heap.size w x7) := Lib.hid (belt HB6.out hb)
    have Rx_7 := Lib.hid (own_below Rx_6.out hb)
    have Rg_7 := Lib.hid (own_below Rg_6.out hb)
    obtain ⟨Ab, cb, rfl, hc1, hc2, _⟩ := own_form ho
    have Rb_7 := Lib.hid ho
    have hbase := HB6.out.size
    have HBSb : Hid (w.heap.size ≤ x6.heap.size) := Lib.hid hbase
    have AP_x_b := Lib.hid (own_apart Rx_6.out ho (Nat.le_refl _))
    have AP_g_b := Lib.hid (own_apart Rg_6.out ho (Nat.le_refl _))
    have HQ_s_b : Hid (x3.heap.size ≤ x6.heap.size) := Lib.hid Zs_6.out
    clear Rx_6 Rg_6 Qs_6 Zs_6 HB6 ho hc1 hc2 hbase hb
    have HCb := Lib.hid (own_cap Rb_7.out)
    go_wp2_with fail
    refine (eqDeS_same _ _ _ _ _ _ _ (rd_own Rx_7.out) (rd_own Rb_7.out) HN.out).mono ?_
    rintro e x8 ⟨rfl, hb⟩
    have Qs_8 := Lib.hid (Qs_7.out.keep (hb.mono Zs_7.out))
    have Zs_8 : Hid (x3.heap.size ≤ x8.heap.size) := Lib.hid (Nat.le_trans Zs_7.out hb.size)
    have HB8 : Hid (Below w.heap.size w x8) := Lib.hid (belt HB7.out hb)
    have Rx_8 := Lib.hid (own_below Rx_7.out hb)
    have Rg_8 := Lib.hid (own_below Rg_7.out hb)
    have Rb_8 := Lib.hid (own_below Rb_7.out hb)
    clear Rx_7 Rg_7 Rb_7 Qs_7 Zs_7 HB7 hb
    clear Rb_8
    go_wp2_with fail
    refine (markDe_any _ _ _ _ _ _ _ Rx_8.out HN.out (by omega) (by omega)).mono ?_
    rintro e x9 ⟨rfl, hown, hg⟩
    have Qs_9 := Lib.hid (Qs_8.out.own Rx_8.out HQ_s_x.out hg Zs_8.out)
    have Zs_9 : Hid (x3.heap.size ≤ x9.heap.size) := Lib.hid (Nat.le_trans Zs_8.out hg.size)
    have HB9 : Hid (Below w.heap.size w x9) := Lib.hid (below_grown HB8.out hg Rx_8.out (by exact HBSx.out) HB8.out.size)
    have Rg_9 := Lib.hid (Rg_8.out.kept hg AP_x_g.out.2)
    have Rx_9 := Lib.hid hown
    clear Rx_8 Rg_8 Qs_8 Zs_8 HB8 hown hg
    clear Rx_9
    go_wp2_with fail
    refine (eqDeS_same _ _ _ _ _ _ _ (rd_own Rg_9.out) (Qs_9.out.rd Zs_9.out) HM.out).mono ?_
    rintro e x10 ⟨rfl, hb⟩
    have Qs_10 := Lib.hid (Qs_9.out.keep (hb.mono Zs_9.out))
    have Zs_10 : Hid (x3.heap.size ≤ x10.heap.size) := Lib.hid (Nat.le_trans Zs_9.out hb.size)
    have HB10 : Hid (Below w.heap.size w x10) := Lib.hid (belt HB9.out hb)
    have Rg_10 := Lib.hid (own_below Rg_9.out hb)
    clear Rg_9 Qs_9 Zs_9 HB9 hb
    go_wp2_with fail
    refine (markDe_any _ _ _ _ _ _ _ Rg_10.out HM.out (by omega) (by omega)).mono ?_
    rintro e x11 ⟨rfl, hown, hg⟩
    have Qs_11 := Lib.hid (Qs_10.out.own Rg_10.out HQ_s_g.out hg Zs_10.out)
    have Zs_11 : Hid (x3.heap.size ≤ x11.heap.size) := Lib.hid (Nat.le_trans Zs_10.out hg.size)
    have HB11 : Hid (Below w.heap.size w x11) := Lib.hid (below_grown HB10.out hg Rg_10.out (by exact HBSg.out) HB10.out.size)
    have Rg_11 := Lib.hid hown
    clear Rg_10 Qs_10 Zs_10 HB10 hown hg
    go_wp2_with fail
    refine (heldDe_any _ _ _ _ _ (rd_own Rg_11.out) HM.out (by omega) (by omega)).mono ?_
    rintro e x12 ⟨rfl, hb⟩
    have Qs_12 := Lib.hid (Qs_11.out.keep (hb.mono Zs_11.out))
    have Zs_12 : Hid (x3.heap.size ≤ x12.heap.size) := Lib.hid (Nat.le_trans Zs_11.out hb.size)
    have HB12 : Hid (Below w.heap.size w x12) := Lib.hid (belt HB11.out hb)
    have Rg_12 := Lib.hid (own_below Rg_11.out hb)
    clear Rg_11 Qs_11 Zs_11 HB11 hb
    go_wp2_with fail
    refine (toDeS_any _ _ _ _ _ (H1.out.below HB12.out) HN.out).mono ?_
    rintro e x13 ⟨v, rfl, ho, hb⟩
    have Qs_13 := Lib.hid (Qs_12.out.keep (hb.mono Zs_12.out))
    have Zs_13 : Hid (x3.heap.size ≤ x13.heap.size) := Lib.hid (Nat.le_trans Zs_12.out hb.size)
    have HB13 : Hid (Below w.heap.size w x13) := Lib.hid (belt HB12.out hb)
    have Rg_13 := Lib.hid (own_below Rg_12.out hb)
    obtain ⟨Ad, cd, rfl, hc1, hc2, _⟩ := own_form ho
    have Rd_13 := Lib.hid ho
    have hbase := HB12.out.size
    have HBSd : Hid (w.heap.size ≤ x12.heap.size) := Lib.hid hbase
    have AP_g_d := Lib.hid (own_apart Rg_12.out ho (Nat.le_refl _))
    have HQ_s_d : Hid (x3.heap.size ≤ x12.heap.size) := Lib.hid Zs_12.out
    clear Rg_12 Qs_12 Zs_12 HB12 ho hc1 hc2 hbase hb
    have HCd := Lib.hid (own_cap Rd_13.out)
    go_wp2_with fail
    refine (itf_any _ _ _ _ _ _ _ (rd_own Rd_13.out) HN.out HCd.out.1 HCd.out.2 HS.out).mono ?_
    rw [HY.out]
    rintro e x14 ⟨v, rfl, ho, hb⟩
    simp only [HRN.out] at ho
    have Qs_14 := Lib.hid (Qs_13.out.keep (hb.mono Zs_13.out))
    have Zs_14 : Hid (x3.heap.size ≤ x14.heap.size) := Lib.hid (Nat.le_trans Zs_13.out hb.size)
    have HB14 : Hid (Below w.heap.size w x14) := Lib.hid (belt HB13.out hb)
    have Rg_14 := Lib.hid (own_below Rg_13.out hb)
    have Rd_14 := Lib.hid (own_below Rd_13.out hb)
    obtain ⟨Ah, ch, rfl, hc1, hc2, _⟩ := own_form ho
    have Rh_14 := Lib.hid ho
    have hbase := HB13.out.size
    have HBSh : Hid (w.heap.size ≤ x13.heap.size) := Lib.hid hbase
    have AP_g_h := Lib.hid (own_apart Rg_13.out ho (Nat.le_refl _))
    have AP_d_h := Lib.hid (own_apart Rd_13.out ho (Nat.le_refl _))
    have HQ_s_h : Hid (x3.heap.size ≤ x13.heap.size) := Lib.hid Zs_13.out
    clear Rg_13 Rd_13 Qs_13 Zs_13 HB13 ho hc1 hc2 hbase hb
    clear Rd_14
    go_wp2_with fail
    refine (eqDeS_same _ _ _ _ _ _ _ (rd_own Rh_14.out) (Qs_14.out.rd Zs_14.out) HM.out).mono ?_
    rintro e x15 ⟨rfl, hb⟩
    have Qs_15 := Lib.hid (Qs_14.out.keep (hb.mono Zs_14.out))
    have Zs_15 : Hid (x3.heap.size ≤ x15.heap.size) := Lib.hid (Nat.le_trans Zs_14.out hb.size)
    have HB15 : Hid (Below w.heap.size w x15) := Lib.hid (belt HB14.out hb)
    have Rg_15 := Lib.hid (own_below Rg_14.out hb)
    have Rh_15 := Lib.hid (own_below Rh_14.out hb)
    clear Rg_14 Rh_14 Qs_14 Zs_14 HB14 hb
    clear Rh_15
    clear Qs_15 Zs_15
    go_wp2_with fail
    refine (heldDe_any _ _ _ _ _ (rd_own Rg_15.out) HM.out (by omega) (by omega)).mono ?_
    rintro e x16 ⟨rfl, hb⟩
    have HB16 : Hid (Below w.heap.size w x16) := Lib.hid (belt HB15.out hb)
    have Rg_16 := Lib.hid (own_below Rg_15.out hb)
    clear Rg_15 HB15 hb
    go_wp2
    go_ret
    exact ⟨rfl, HB16.out⟩
  · have h0' : r < 0 := by omega
    clear hfit h0
    go_enter Try.func6, Try.ntmps6
    go_wp2_with fail
    refine (szDeS_any _ _ _ _ _ _ H1.out HX.out HS.out (by omega) (by omega)).mono ?_
    rw [HR.out]
    rintro e x1 ⟨rfl, hb⟩
    have HB := Lib.hid hb
    clear hb
    go_wp2
    go_ret
    exact ⟨rfl, HB.out⟩
end Go.Proofs.Ytadgmncngkkdnaa
