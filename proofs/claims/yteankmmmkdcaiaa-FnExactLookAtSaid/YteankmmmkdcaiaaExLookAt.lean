/-
  The walk of FnExactLookAt.
-/
import Derived.Test.YteankmmmkdcaiaaLookAt
import Derived.Test.YteankmmmkdcaiaaListFWatch
import Derived.Test.YteankmmmkdcaiaaMarkWatch
namespace Go.Proofs.Yteankmmmkdcaiaa
open Go.ChangeShapes Go.WideShapes Go.ChangeAt Go.RowKit Go.Joins
set_option linter.unusedVariables false

set_option maxRecDepth 100000 in
set_option maxHeartbeats 8000000 in
theorem exLookAt (A : Option Addr) (n c : Nat) (l : List Wa) (feed : ByteArray) (hf : feed.size ≤ maxLen) (now : Int) (ch : Bool) (w : World) (h : Rd w 3 A n (was l) ∧ n ≤ maxLen ∧ ∀ z ∈ l, z.a.size ≤ maxLen) :
    Calls Try.prog 10 #[.slice A n c, .string feed, .int .i64 now, .bool ch] w fun e w' => e = .returned (.bool true) ∧ Below w.heap.size w w' := by
  obtain ⟨h1, hx, hs⟩ := h
  have hl1 := rd_walen h1
  have H1 := Lib.hid h1; have HS := Lib.hid hs; have HX := Lib.hid hx; have HF := Lib.hid hf
  generalize hr : waL l 1048576 = r
  have hfit : 0 ≤ r → n ≤ 1048576 := fun h0 => by
    rw [← hr, waL, hl1] at h0
    split at h0 <;> omega
  have HR := Lib.hid hr
  have hrl : (laL l feed now ch).length ≤ n := by rw [laL_len, hl1]; split <;> omega
  clear h1 hs hx hr hl1
  generalize hb : laL l feed now ch = R at *
  generalize hbb : laB l feed now = bR at *
  generalize hrn : R.length = m at *
  have HY := Lib.hid hb; have HYB := Lib.hid hbb; have HRN := Lib.hid hrn
  clear hb hbb hrn
  unfold maxLen at hf
  by_cases hfl : feed.size ≤ 1048576
  · by_cases h0 : 0 ≤ r
    · have hn := hfit h0
      have hm : m ≤ 1048576 := by omega
      have HN := Lib.hid hn; have HM := Lib.hid hm
      clear hfit hrl
      go_enter Try.func10, Try.ntmps10
      go_wp2_with fail
      refine (szWaS_any _ _ _ _ _ _ H1.out HX.out HS.out (by omega) (by omega)).mono ?_
      rw [HR.out]
      rintro e x1 ⟨rfl, hb⟩
      have HB1 : Hid (Below w.heap.size w x1) := Lib.hid (belt (Below.refl w.heap.size w) hb)
      clear hb
      go_wp2_with fail
      refine (toWaS_any _ _ _ _ _ (H1.out.below HB1.out) HN.out).mono ?_
      rintro e x2 ⟨v, rfl, ho, hb⟩
      have HB2 : Hid (Below w.heap.size w x2) := Lib.hid (belt HB1.out hb)
      obtain ⟨Aa, ca, rfl, hc1, hc2, _⟩ := own_form ho
      have Ra_2 := Lib.hid ho
      have hbase := HB1.out.size
      have HBSa : Hid (w.heap.size ≤ x1.heap.size) := Lib.hid hbase
      clear HB1 ho hc1 hc2 hbase hb
      have HCa := Lib.hid (own_cap Ra_2.out)
      go_wp2_with fail
      refine (sla_any _ _ _ _ _ _ _ _ (rd_own Ra_2.out) HN.out HCa.out.1 HCa.out.2 HS.out HF.out).mono ?_
      rw [HY.out, HYB.out, HRN.out]
      rintro e x3 ⟨v, rfl, ho, hb⟩
      have HB3 : Hid (Below w.heap.size w x3) := Lib.hid (belt HB2.out hb)
      have Ra_3 := Lib.hid (own_below Ra_2.out hb)
      obtain ⟨As, cs, rfl, hc1, hc2, _⟩ := own_form ho
      have Rs_3 := Lib.hid ho
      have hbase := HB2.out.size
      have HBSs : Hid (w.heap.size ≤ x2.heap.size) := Lib.hid hbase
      have AP_a_s := Lib.hid (own_apart Ra_2.out ho (Nat.le_refl _))
      clear Ra_2 HB2 ho hc1 hc2 hbase hb
      clear Ra_3
      go_wp2_with fail
      refine (toWaS_any _ _ _ _ _ (H1.out.below HB3.out) HN.out).mono ?_
      rintro e x4 ⟨v, rfl, ho, hb⟩
      have HB4 : Hid (Below w.heap.size w x4) := Lib.hid (belt HB3.out hb)
      have Rs_4 := Lib.hid (own_below Rs_3.out hb)
      obtain ⟨Ax, cx, rfl, hc1, hc2, _⟩ := own_form ho
      have Rx_4 := Lib.hid ho
      have hbase := HB3.out.size
      have HBSx : Hid (w.heap.size ≤ x3.heap.size) := Lib.hid hbase
      have AP_s_x := Lib.hid (own_apart Rs_3.out ho (Nat.le_refl _))
      clear Rs_3 HB3 ho hc1 hc2 hbase hb
      have HCx := Lib.hid (own_cap Rx_4.out)
      go_wp2_with fail
      refine (ila_any _ _ _ _ _ _ _ _ (rd_own Rx_4.out) HN.out HCx.out.1 HCx.out.2 HS.out HF.out).mono ?_
      rw [HY.out, HYB.out, HRN.out]
      rintro e x5 ⟨v, rfl, ho, hb⟩
      have HB5 : Hid (Below w.heap.size w x5) := Lib.hid (belt HB4.out hb)
      have Rs_5 := Lib.hid (own_below Rs_4.out hb)
      have Rx_5 := Lib.hid (own_below Rx_4.out hb)
      obtain ⟨Ag, cg, rfl, hc1, hc2, _⟩ := own_form ho
      have Rg_5 := Lib.hid ho
      have hbase := HB4.out.size
      have HBSg : Hid (w.heap.size ≤ x4.heap.size) := Lib.hid hbase
      have AP_s_g := Lib.hid (own_apart Rs_4.out ho (Nat.le_refl _))
      have AP_x_g := Lib.hid (own_apart Rx_4.out ho (Nat.le_refl _))
      clear Rs_4 Rx_4 HB4 ho hc1 hc2 hbase hb
      go_wp2_with fail
      refine (eqWaS_same _ _ _ _ _ _ _ (rd_own Rg_5.out) (rd_own Rs_5.out) HM.out).mono ?_
      rintro e x6 ⟨rfl, hb⟩
      have HB6 : Hid (Below w.heap.size w x6) := Lib.hid (belt HB5.out hb)
      have Rs_6 := Lib.hid (own_below Rs_5.out hb)
      have Rx_6 := Lib.hid (own_below Rx_5.out hb)
      have Rg_6 := Lib.hid (own_below Rg_5.out hb)
      clear Rs_5 Rx_5 Rg_5 HB5 hb
      go_wp2_with fail
      refine (toWaS_any _ _ _ _ _ (H1.out.below HB6.out) HN.out).mono ?_
      rintro e x7 ⟨v, rfl, ho, hb⟩
      have HB7 : Hid (Below w.heap.size w x7) := Lib.hid (belt HB6.out hb)
      have Rs_7 := Lib.hid (own_below Rs_6.out hb)
      have Rx_7 := Lib.hid (own_below Rx_6.out hb)
      have Rg_7 := Lib.hid (own_below Rg_6.out hb)
      obtain ⟨Ab, cb, rfl, hc1, hc2, _⟩ := own_form ho
      have Rb_7 := Lib.hid ho
      have hbase := HB6.out.size
      have HBSb : Hid (w.heap.size ≤ x6.heap.size) := Lib.hid hbase
      have AP_s_b := Lib.hid (own_apart Rs_6.out ho (Nat.le_refl _))
      have AP_x_b := Lib.hid (own_apart Rx_6.out ho (Nat.le_refl _))
      have AP_g_b := Lib.hid (own_apart Rg_6.out ho (Nat.le_refl _))
      clear Rs_6 Rx_6 Rg_6 HB6 ho hc1 hc2 hbase hb
      have HCb := Lib.hid (own_cap Rb_7.out)
      go_wp2_with fail
      refine (eqWaS_same _ _ _ _ _ _ _ (rd_own Rx_7.out) (rd_own Rb_7.out) HN.out).mono ?_
      rintro e x8 ⟨rfl, hb⟩
      have HB8 : Hid (Below w.heap.size w x8) := Lib.hid (belt HB7.out hb)
      have Rs_8 := Lib.hid (own_below Rs_7.out hb)
      have Rx_8 := Lib.hid (own_below Rx_7.out hb)
      have Rg_8 := Lib.hid (own_below Rg_7.out hb)
      have Rb_8 := Lib.hid (own_below Rb_7.out hb)
      clear Rs_7 Rx_7 Rg_7 Rb_7 HB7 hb
      clear Rb_8
      go_wp2_with fail
      refine (markWa_any _ _ _ _ _ _ _ Rx_8.out HN.out (by omega) (by omega)).mono ?_
      rintro e x9 ⟨rfl, hown, hg⟩
      have HB9 : Hid (Below w.heap.size w x9) := Lib.hid (below_grown HB8.out hg Rx_8.out (by exact HBSx.out) HB8.out.size)
      have Rs_9 := Lib.hid (Rs_8.out.kept hg AP_s_x.out.1)
      have Rg_9 := Lib.hid (Rg_8.out.kept hg AP_x_g.out.2)
      have Rx_9 := Lib.hid hown
      clear Rs_8 Rx_8 Rg_8 HB8 hown hg
      clear Rx_9
      go_wp2_with fail
      refine (eqWaS_same _ _ _ _ _ _ _ (rd_own Rg_9.out) (rd_own Rs_9.out) HM.out).mono ?_
      rintro e x10 ⟨rfl, hb⟩
      have HB10 : Hid (Below w.heap.size w x10) := Lib.hid (belt HB9.out hb)
      have Rs_10 := Lib.hid (own_below Rs_9.out hb)
      have Rg_10 := Lib.hid (own_below Rg_9.out hb)
      clear Rs_9 Rg_9 HB9 hb
      go_wp2_with fail
      refine (markWa_any _ _ _ _ _ _ _ Rg_10.out HM.out (by omega) (by omega)).mono ?_
      rintro e x11 ⟨rfl, hown, hg⟩
      have HB11 : Hid (Below w.heap.size w x11) := Lib.hid (below_grown HB10.out hg Rg_10.out (by exact HBSg.out) HB10.out.size)
      have Rs_11 := Lib.hid (Rs_10.out.kept hg AP_s_g.out.1)
      have Rg_11 := Lib.hid hown
      clear Rs_10 Rg_10 HB10 hown hg
      go_wp2_with fail
      refine (heldWa_any _ _ _ _ _ (rd_own Rg_11.out) HM.out (by omega) (by omega)).mono ?_
      rintro e x12 ⟨rfl, hb⟩
      have HB12 : Hid (Below w.heap.size w x12) := Lib.hid (belt HB11.out hb)
      have Rs_12 := Lib.hid (own_below Rs_11.out hb)
      have Rg_12 := Lib.hid (own_below Rg_11.out hb)
      clear Rs_11 Rg_11 HB11 hb
      go_wp2_with fail
      refine (toWaS_any _ _ _ _ _ (H1.out.below HB12.out) HN.out).mono ?_
      rintro e x13 ⟨v, rfl, ho, hb⟩
      have HB13 : Hid (Below w.heap.size w x13) := Lib.hid (belt HB12.out hb)
      have Rs_13 := Lib.hid (own_below Rs_12.out hb)
      have Rg_13 := Lib.hid (own_below Rg_12.out hb)
      obtain ⟨Ad, cd, rfl, hc1, hc2, _⟩ := own_form ho
      have Rd_13 := Lib.hid ho
      have hbase := HB12.out.size
      have HBSd : Hid (w.heap.size ≤ x12.heap.size) := Lib.hid hbase
      have AP_s_d := Lib.hid (own_apart Rs_12.out ho (Nat.le_refl _))
      have AP_g_d := Lib.hid (own_apart Rg_12.out ho (Nat.le_refl _))
      clear Rs_12 Rg_12 HB12 ho hc1 hc2 hbase hb
      have HCd := Lib.hid (own_cap Rd_13.out)
      go_wp2_with fail
      refine (ila_any _ _ _ _ _ _ _ _ (rd_own Rd_13.out) HN.out HCd.out.1 HCd.out.2 HS.out HF.out).mono ?_
      rw [HY.out, HYB.out, HRN.out]
      rintro e x14 ⟨v, rfl, ho, hb⟩
      have HB14 : Hid (Below w.heap.size w x14) := Lib.hid (belt HB13.out hb)
      have Rs_14 := Lib.hid (own_below Rs_13.out hb)
      have Rg_14 := Lib.hid (own_below Rg_13.out hb)
      have Rd_14 := Lib.hid (own_below Rd_13.out hb)
      obtain ⟨Ah, ch, rfl, hc1, hc2, _⟩ := own_form ho
      have Rh_14 := Lib.hid ho
      have hbase := HB13.out.size
      have HBSh : Hid (w.heap.size ≤ x13.heap.size) := Lib.hid hbase
      have AP_s_h := Lib.hid (own_apart Rs_13.out ho (Nat.le_refl _))
      have AP_g_h := Lib.hid (own_apart Rg_13.out ho (Nat.le_refl _))
      have AP_d_h := Lib.hid (own_apart Rd_13.out ho (Nat.le_refl _))
      clear Rs_13 Rg_13 Rd_13 HB13 ho hc1 hc2 hbase hb
      clear Rd_14
      go_wp2_with fail
      refine (eqWaS_same _ _ _ _ _ _ _ (rd_own Rh_14.out) (rd_own Rs_14.out) HM.out).mono ?_
      rintro e x15 ⟨rfl, hb⟩
      have HB15 : Hid (Below w.heap.size w x15) := Lib.hid (belt HB14.out hb)
      have Rs_15 := Lib.hid (own_below Rs_14.out hb)
      have Rg_15 := Lib.hid (own_below Rg_14.out hb)
      have Rh_15 := Lib.hid (own_below Rh_14.out hb)
      clear Rs_14 Rg_14 Rh_14 HB14 hb
      clear Rh_15
      clear Rs_15
      go_wp2_with fail
      refine (heldWa_any _ _ _ _ _ (rd_own Rg_15.out) HM.out (by omega) (by omega)).mono ?_
      rintro e x16 ⟨rfl, hb⟩
      have HB16 : Hid (Below w.heap.size w x16) := Lib.hid (belt HB15.out hb)
      have Rg_16 := Lib.hid (own_below Rg_15.out hb)
      clear Rg_15 HB15 hb
      go_wp2
      go_ret
      exact ⟨rfl, HB16.out⟩
    · have h0' : r < 0 := by omega
      clear hfit h0
      go_enter Try.func10, Try.ntmps10
      go_wp2_with fail
      refine (szWaS_any _ _ _ _ _ _ H1.out HX.out HS.out (by omega) (by omega)).mono ?_
      rw [HR.out]
      rintro e x1 ⟨rfl, hb⟩
      have HB := Lib.hid hb
      clear hb
      go_wp2
      go_ret
      exact ⟨rfl, HB.out⟩
  · have hfl' : (1048576 : Int) < (feed.size : Int) := by omega
    go_enter Try.func10, Try.ntmps10
    go_wp2
    go_ret
    exact ⟨rfl, Below.refl _ _⟩
end Go.Proofs.Yteankmmmkdcaiaa
