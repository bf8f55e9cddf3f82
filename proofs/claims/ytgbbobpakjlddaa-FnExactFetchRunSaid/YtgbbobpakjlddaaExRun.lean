/-
  The walk of FnExactFetchRun.
-/
import Derived.Test.YtgbbobpakjlddaaRun2
namespace Go.Proofs.Ytgbbobpakjlddaa
open Go.ChangeShapes Go.WideShapes Go.ChangeAt Go.RowKit Go.Joins
set_option linter.unusedVariables false

theorem frR_le (ts ds : List Int) (long : Int) : (frR ts ds long).length ≤ ts.length := by
  unfold frR; split
  · rw [frL_len]; exact Nat.le_refl _
  · simp
set_option maxRecDepth 100000 in
set_option maxHeartbeats 8000000 in
theorem exFetchRun (A : Option Addr) (n c : Nat) (ts : List Int) (B : Option Addr) (m d : Nat) (ds : List Int) (long : Int) (w : World) (h1 : Rd w 1 A n (iv ts) ∧ n ≤ maxLen) (h2 : Rd w 1 B m (iv ds) ∧ m ≤ maxLen) :
    Calls Try.prog 6 #[.slice A n c, .slice B m d, .int .i64 long] w fun e w' => e = .returned (.bool true) ∧ Below w.heap.size w w' := by
  obtain ⟨h1, hx1⟩ := h1
  obtain ⟨h2, hx2⟩ := h2
  have hl1 := rd_ilen h1
  have H1 := Lib.hid h1; have H2 := Lib.hid h2; have L1 := Lib.hid hl1; clear h1 h2 hl1
  simp only [maxLen] at hx1 hx2
  by_cases hn : n ≤ 1048576
  · by_cases hm : m ≤ 1048576
    · have hrl := frR_le ts ds long
      generalize hr : frR ts ds long = R at *
      rw [L1.out] at hrl
      generalize hrn : R.length = r at *
      have HR := Lib.hid hr; have HRN := Lib.hid hrn; clear hr hrn
      have hr9 : r ≤ 1048576 := by omega
      clear hrl hx1 hx2
      have HN := Lib.hid hn; have HM := Lib.hid hm; have HR9 := Lib.hid hr9
      go_enter Try.func6, Try.ntmps6
      go_wp2_with fail
      refine (toI_any _ _ _ _ _ (H1.out.below (Below.refl w.heap.size w)) HN.out).mono ?_
      rintro e x1 ⟨v, rfl, ho, hb⟩
      have HB1 : Hid (Below w.heap.size w x1) := Lib.hid (belt (Below.refl w.heap.size w) hb)
      obtain ⟨Aa, ca, rfl, hc1, hc2, _⟩ := own_form ho
      have Ra_1 := Lib.hid ho
      have hbase := (Below.refl w.heap.size w).size
      have HBSa : Hid (w.heap.size ≤ w.heap.size) := Lib.hid hbase
      clear ho hc1 hc2 hbase hb
      go_wp2_with fail
      refine (toI_any _ _ _ _ _ (H2.out.below HB1.out) HM.out).mono ?_
      rintro e x2 ⟨v, rfl, ho, hb⟩
      have HB2 : Hid (Below w.heap.size w x2) := Lib.hid (belt HB1.out hb)
      have Ra_2 := Lib.hid (own_below Ra_1.out hb)
      obtain ⟨Ab, cb, rfl, hc1, hc2, _⟩ := own_form ho
      have Rb_2 := Lib.hid ho
      have hbase := HB1.out.size
      have HBSb : Hid (w.heap.size ≤ x1.heap.size) := Lib.hid hbase
      have AP_a_b := Lib.hid (own_apart Ra_1.out ho (Nat.le_refl _))
      clear Ra_1 HB1 ho hc1 hc2 hbase hb
      go_wp2_with fail
      refine (sfr_any _ _ _ _ _ _ _ _ _ _ (rd_own Ra_2.out) (rd_own Rb_2.out) HN.out HM.out).mono ?_
      rw [HR.out, HRN.out]
      rintro e x3 ⟨v, rfl, ho, hb⟩
      have HB3 : Hid (Below w.heap.size w x3) := Lib.hid (belt HB2.out hb)
      have Ra_3 := Lib.hid (own_below Ra_2.out hb)
      have Rb_3 := Lib.hid (own_below Rb_2.out hb)
      obtain ⟨As, cs, rfl, hc1, hc2, _⟩ := own_form ho
      have Rs_3 := Lib.hid ho
      have hbase := HB2.out.size
      have HBSs : Hid (w.heap.size ≤ x2.heap.size) := Lib.hid hbase
      have AP_a_s := Lib.hid (own_apart Ra_2.out ho (Nat.le_refl _))
      have AP_b_s := Lib.hid (own_apart Rb_2.out ho (Nat.le_refl _))
      clear Ra_2 Rb_2 HB2 ho hc1 hc2 hbase hb
      clear Ra_3
      clear Rb_3
      go_wp2_with fail
      refine (toI_any _ _ _ _ _ (H1.out.below HB3.out) HN.out).mono ?_
      rintro e x4 ⟨v, rfl, ho, hb⟩
      have HB4 : Hid (Below w.heap.size w x4) := Lib.hid (belt HB3.out hb)
      have Rs_4 := Lib.hid (own_below Rs_3.out hb)
      obtain ⟨Ax, cx, rfl, hc1, hc2, _⟩ := own_form ho
      have Rx_4 := Lib.hid ho
      have hbase := HB3.out.size
      have HBSx : Hid (w.heap.size ≤ x3.heap.size) := Lib.hid hbase
      have AP_s_x := Lib.hid (own_apart Rs_3.out ho (Nat.le_refl _))
      clear Rs_3 HB3 ho hc1 hc2 hbase hb
      go_wp2_with fail
      refine (toI_any _ _ _ _ _ (H2.out.below HB4.out) HM.out).mono ?_
      rintro e x5 ⟨v, rfl, ho, hb⟩
      have HB5 : Hid (Below w.heap.size w x5) := Lib.hid (belt HB4.out hb)
      have Rs_5 := Lib.hid (own_below Rs_4.out hb)
      have Rx_5 := Lib.hid (own_below Rx_4.out hb)
      obtain ⟨Ay, cy, rfl, hc1, hc2, _⟩ := own_form ho
      have Ry_5 := Lib.hid ho
      have hbase := HB4.out.size
      have HBSy : Hid (w.heap.size ≤ x4.heap.size) := Lib.hid hbase
      have AP_s_y := Lib.hid (own_apart Rs_4.out ho (Nat.le_refl _))
      have AP_x_y := Lib.hid (own_apart Rx_4.out ho (Nat.le_refl _))
      clear Rs_4 Rx_4 HB4 ho hc1 hc2 hbase hb
      go_wp2_with fail
      refine (ifr_any _ _ _ _ _ _ _ _ _ _ (rd_own Rx_5.out) (rd_own Ry_5.out) HN.out HM.out).mono ?_
      rw [HR.out, HRN.out]
      rintro e x6 ⟨v, rfl, ho, hb⟩
      have HB6 : Hid (Below w.heap.size w x6) := Lib.hid (belt HB5.out hb)
      have Rs_6 := Lib.hid (own_below Rs_5.out hb)
      have Rx_6 := Lib.hid (own_below Rx_5.out hb)
      have Ry_6 := Lib.hid (own_below Ry_5.out hb)
      obtain ⟨Ag, cg, rfl, hc1, hc2, _⟩ := own_form ho
      have Rg_6 := Lib.hid ho
      have hbase := HB5.out.size
      have HBSg : Hid (w.heap.size ≤ x5.heap.size) := Lib.hid hbase
      have AP_s_g := Lib.hid (own_apart Rs_5.out ho (Nat.le_refl _))
      have AP_x_g := Lib.hid (own_apart Rx_5.out ho (Nat.le_refl _))
      have AP_y_g := Lib.hid (own_apart Ry_5.out ho (Nat.le_refl _))
      clear Rs_5 Rx_5 Ry_5 HB5 ho hc1 hc2 hbase hb
      go_wp2_with fail
      refine (eqI_same _ _ _ _ _ _ _ (rd_own Rg_6.out) (rd_own Rs_6.out) HR9.out).mono ?_
      rintro e x7 ⟨rfl, q, hw⟩
      have hb := belq hw
      clear hw
      have HB7 : Hid (Below w.heap.size w x7) := Lib.hid (belt HB6.out hb)
      have Rs_7 := Lib.hid (own_below Rs_6.out hb)
      have Rx_7 := Lib.hid (own_below Rx_6.out hb)
      have Ry_7 := Lib.hid (own_below Ry_6.out hb)
      have Rg_7 := Lib.hid (own_below Rg_6.out hb)
      clear Rs_6 Rx_6 Ry_6 Rg_6 HB6 hb
      go_wp2_with fail
      refine (toI_any _ _ _ _ _ (H1.out.below HB7.out) HN.out).mono ?_
      rintro e x8 ⟨v, rfl, ho, hb⟩
      have HB8 : Hid (Below w.heap.size w x8) := Lib.hid (belt HB7.out hb)
      have Rs_8 := Lib.hid (own_below Rs_7.out hb)
      have Rx_8 := Lib.hid (own_below Rx_7.out hb)
      have Ry_8 := Lib.hid (own_below Ry_7.out hb)
      have Rg_8 := Lib.hid (own_below Rg_7.out hb)
      obtain ⟨Aa2, ca2, rfl, hc1, hc2, _⟩ := own_form ho
      have Ra2_8 := Lib.hid ho
      have hbase := HB7.out.size
      have HBSa2 : Hid (w.heap.size ≤ x7.heap.size) := Lib.hid hbase
      have AP_s_a2 := Lib.hid (own_apart Rs_7.out ho (Nat.le_refl _))
      have AP_x_a2 := Lib.hid (own_apart Rx_7.out ho (Nat.le_refl _))
      have AP_y_a2 := Lib.hid (own_apart Ry_7.out ho (Nat.le_refl _))
      have AP_g_a2 := Lib.hid (own_apart Rg_7.out ho (Nat.le_refl _))
      clear Rs_7 Rx_7 Ry_7 Rg_7 HB7 ho hc1 hc2 hbase hb
      go_wp2_with fail
      refine (eqI_same _ _ _ _ _ _ _ (rd_own Rx_8.out) (rd_own Ra2_8.out) HN.out).mono ?_
      rintro e x9 ⟨rfl, q, hw⟩
      have hb := belq hw
      clear hw
      have HB9 : Hid (Below w.heap.size w x9) := Lib.hid (belt HB8.out hb)
      have Rs_9 := Lib.hid (own_below Rs_8.out hb)
      have Rx_9 := Lib.hid (own_below Rx_8.out hb)
      have Ry_9 := Lib.hid (own_below Ry_8.out hb)
      have Rg_9 := Lib.hid (own_below Rg_8.out hb)
      have Ra2_9 := Lib.hid (own_below Ra2_8.out hb)
      clear Rs_8 Rx_8 Ry_8 Rg_8 Ra2_8 HB8 hb
      clear Ra2_9
      go_wp2_with fail
      refine (toI_any _ _ _ _ _ (H2.out.below HB9.out) HM.out).mono ?_
      rintro e x10 ⟨v, rfl, ho, hb⟩
      have HB10 : Hid (Below w.heap.size w x10) := Lib.hid (belt HB9.out hb)
      have Rs_10 := Lib.hid (own_below Rs_9.out hb)
      have Rx_10 := Lib.hid (own_below Rx_9.out hb)
      have Ry_10 := Lib.hid (own_below Ry_9.out hb)
      have Rg_10 := Lib.hid (own_below Rg_9.out hb)
      obtain ⟨Ab2, cb2, rfl, hc1, hc2, _⟩ := own_form ho
      have Rb2_10 := Lib.hid ho
      have hbase := HB9.out.size
      have HBSb2 : Hid (w.heap.size ≤ x9.heap.size) := Lib.hid hbase
      have AP_s_b2 := Lib.hid (own_apart Rs_9.out ho (Nat.le_refl _))
      have AP_x_b2 := Lib.hid (own_apart Rx_9.out ho (Nat.le_refl _))
      have AP_y_b2 := Lib.hid (own_apart Ry_9.out ho (Nat.le_refl _))
      have AP_g_b2 := Lib.hid (own_apart Rg_9.out ho (Nat.le_refl _))
      clear Rs_9 Rx_9 Ry_9 Rg_9 HB9 ho hc1 hc2 hbase hb
      go_wp2_with fail
      refine (eqI_same _ _ _ _ _ _ _ (rd_own Ry_10.out) (rd_own Rb2_10.out) HM.out).mono ?_
      rintro e x11 ⟨rfl, q, hw⟩
      have hb := belq hw
      clear hw
      have HB11 : Hid (Below w.heap.size w x11) := Lib.hid (belt HB10.out hb)
      have Rs_11 := Lib.hid (own_below Rs_10.out hb)
      have Rx_11 := Lib.hid (own_below Rx_10.out hb)
      have Ry_11 := Lib.hid (own_below Ry_10.out hb)
      have Rg_11 := Lib.hid (own_below Rg_10.out hb)
      have Rb2_11 := Lib.hid (own_below Rb2_10.out hb)
      clear Rs_10 Rx_10 Ry_10 Rg_10 Rb2_10 HB10 hb
      clear Rb2_11
      go_wp2_with fail
      refine (markI_any _ _ _ _ _ _ _ Rx_11.out HN.out (by omega) (by omega)).mono ?_
      rintro e x12 ⟨rfl, hown, hg⟩
      have HB12 : Hid (Below w.heap.size w x12) := Lib.hid (below_grown HB11.out hg Rx_11.out (by exact HBSx.out) HB11.out.size)
      have Rs_12 := Lib.hid (Rs_11.out.kept hg AP_s_x.out.1)
      have Ry_12 := Lib.hid (Ry_11.out.kept hg AP_x_y.out.2)
      have Rg_12 := Lib.hid (Rg_11.out.kept hg AP_x_g.out.2)
      have Rx_12 := Lib.hid hown
      clear Rs_11 Rx_11 Ry_11 Rg_11 HB11 hown hg
      go_wp2_with fail
      refine (markI_any _ _ _ _ _ _ _ Ry_12.out HM.out (by omega) (by omega)).mono ?_
      rintro e x13 ⟨rfl, hown, hg⟩
      have HB13 : Hid (Below w.heap.size w x13) := Lib.hid (below_grown HB12.out hg Ry_12.out (by exact HBSy.out) HB12.out.size)
      have Rs_13 := Lib.hid (Rs_12.out.kept hg AP_s_y.out.1)
      have Rx_13 := Lib.hid (Rx_12.out.kept hg AP_x_y.out.1)
      have Rg_13 := Lib.hid (Rg_12.out.kept hg AP_y_g.out.2)
      have Ry_13 := Lib.hid hown
      clear Rs_12 Rx_12 Ry_12 Rg_12 HB12 hown hg
      clear Rx_13
      clear Ry_13
      go_wp2_with fail
      refine (eqI_same _ _ _ _ _ _ _ (rd_own Rg_13.out) (rd_own Rs_13.out) HR9.out).mono ?_
      rintro e x14 ⟨rfl, q, hw⟩
      have hb := belq hw
      clear hw
      have HB14 : Hid (Below w.heap.size w x14) := Lib.hid (belt HB13.out hb)
      have Rs_14 := Lib.hid (own_below Rs_13.out hb)
      have Rg_14 := Lib.hid (own_below Rg_13.out hb)
      clear Rs_13 Rg_13 HB13 hb
      go_wp2_with fail
      refine (markI_any _ _ _ _ _ _ _ Rg_14.out HR9.out (by omega) (by omega)).mono ?_
      rintro e x15 ⟨rfl, hown, hg⟩
      have HB15 : Hid (Below w.heap.size w x15) := Lib.hid (below_grown HB14.out hg Rg_14.out (by exact HBSg.out) HB14.out.size)
      have Rs_15 := Lib.hid (Rs_14.out.kept hg AP_s_g.out.1)
      have Rg_15 := Lib.hid hown
      clear Rs_14 Rg_14 HB14 hown hg
      go_wp2_with fail
      refine (heldI_any _ _ _ _ _ (rd_own Rg_15.out) HR9.out (by omega) (by omega)).mono ?_
      rintro e x16 ⟨rfl, hw⟩
      have hb := belr hw
      clear hw
      have HB16 : Hid (Below w.heap.size w x16) := Lib.hid (belt HB15.out hb)
      have Rs_16 := Lib.hid (own_below Rs_15.out hb)
      have Rg_16 := Lib.hid (own_below Rg_15.out hb)
      clear Rs_15 Rg_15 HB15 hb
      go_wp2_with fail
      refine (toI_any _ _ _ _ _ (H1.out.below HB16.out) HN.out).mono ?_
      rintro e x17 ⟨v, rfl, ho, hb⟩
      have HB17 : Hid (Below w.heap.size w x17) := Lib.hid (belt HB16.out hb)
      have Rs_17 := Lib.hid (own_below Rs_16.out hb)
      have Rg_17 := Lib.hid (own_below Rg_16.out hb)
      obtain ⟨Aa3, ca3, rfl, hc1, hc2, _⟩ := own_form ho
      have Ra3_17 := Lib.hid ho
      have hbase := HB16.out.size
      have HBSa3 : Hid (w.heap.size ≤ x16.heap.size) := Lib.hid hbase
      have AP_s_a3 := Lib.hid (own_apart Rs_16.out ho (Nat.le_refl _))
      have AP_g_a3 := Lib.hid (own_apart Rg_16.out ho (Nat.le_refl _))
      clear Rs_16 Rg_16 HB16 ho hc1 hc2 hbase hb
      go_wp2_with fail
      refine (toI_any _ _ _ _ _ (H2.out.below HB17.out) HM.out).mono ?_
      rintro e x18 ⟨v, rfl, ho, hb⟩
      have HB18 : Hid (Below w.heap.size w x18) := Lib.hid (belt HB17.out hb)
      have Rs_18 := Lib.hid (own_below Rs_17.out hb)
      have Rg_18 := Lib.hid (own_below Rg_17.out hb)
      have Ra3_18 := Lib.hid (own_below Ra3_17.out hb)
      obtain ⟨Ab3, cb3, rfl, hc1, hc2, _⟩ := own_form ho
      have Rb3_18 := Lib.hid ho
      have hbase := HB17.out.size
      have HBSb3 : Hid (w.heap.size ≤ x17.heap.size) := Lib.hid hbase
      have AP_s_b3 := Lib.hid (own_apart Rs_17.out ho (Nat.le_refl _))
      have AP_g_b3 := Lib.hid (own_apart Rg_17.out ho (Nat.le_refl _))
      have AP_a3_b3 := Lib.hid (own_apart Ra3_17.out ho (Nat.le_refl _))
      clear Rs_17 Rg_17 Ra3_17 HB17 ho hc1 hc2 hbase hb
      go_wp2_with fail
      refine (ifr_any _ _ _ _ _ _ _ _ _ _ (rd_own Ra3_18.out) (rd_own Rb3_18.out) HN.out HM.out).mono ?_
      rw [HR.out, HRN.out]
      rintro e x19 ⟨v, rfl, ho, hb⟩
      have HB19 : Hid (Below w.heap.size w x19) := Lib.hid (belt HB18.out hb)
      have Rs_19 := Lib.hid (own_below Rs_18.out hb)
      have Rg_19 := Lib.hid (own_below Rg_18.out hb)
      have Ra3_19 := Lib.hid (own_below Ra3_18.out hb)
      have Rb3_19 := Lib.hid (own_below Rb3_18.out hb)
      obtain ⟨Ah, ch, rfl, hc1, hc2, _⟩ := own_form ho
      have Rh_19 := Lib.hid ho
      have hbase := HB18.out.size
      have HBSh : Hid (w.heap.size ≤ x18.heap.size) := Lib.hid hbase
      have AP_s_h := Lib.hid (own_apart Rs_18.out ho (Nat.le_refl _))
      have AP_g_h := Lib.hid (own_apart Rg_18.out ho (Nat.le_refl _))
      have AP_a3_h := Lib.hid (own_apart Ra3_18.out ho (Nat.le_refl _))
      have AP_b3_h := Lib.hid (own_apart Rb3_18.out ho (Nat.le_refl _))
      clear Rs_18 Rg_18 Ra3_18 Rb3_18 HB18 ho hc1 hc2 hbase hb
      clear Ra3_19
      clear Rb3_19
      go_wp2_with fail
      refine (eqI_same _ _ _ _ _ _ _ (rd_own Rh_19.out) (rd_own Rs_19.out) HR9.out).mono ?_
      rintro e x20 ⟨rfl, q, hw⟩
      have hb := belq hw
      clear hw
      have HB20 : Hid (Below w.heap.size w x20) := Lib.hid (belt HB19.out hb)
      have Rs_20 := Lib.hid (own_below Rs_19.out hb)
      have Rg_20 := Lib.hid (own_below Rg_19.out hb)
      have Rh_20 := Lib.hid (own_below Rh_19.out hb)
      clear Rs_19 Rg_19 Rh_19 HB19 hb
      clear Rh_20
      clear Rs_20
      go_wp2_with fail
      refine (heldI_any _ _ _ _ _ (rd_own Rg_20.out) HR9.out (by omega) (by omega)).mono ?_
      rintro e x21 ⟨rfl, hw⟩
      have hb := belr hw
      clear hw
      have HB21 : Hid (Below w.heap.size w x21) := Lib.hid (belt HB20.out hb)
      have Rg_21 := Lib.hid (own_below Rg_20.out hb)
      clear Rg_20 HB20 hb
      go_wp2
      go_ret
      exact ⟨rfl, HB21.out⟩
    · have hm' : (1048576 : Int) < (m : Int) := by omega
      go_enter Try.func6, Try.ntmps6
      go_wp2
      go_ret
      exact ⟨rfl, Below.refl _ _⟩
  · have hn' : (1048576 : Int) < (n : Int) := by omega
    go_enter Try.func6, Try.ntmps6
    go_wp2
    go_ret
    exact ⟨rfl, Below.refl _ _⟩
end Go.Proofs.Ytgbbobpakjlddaa
