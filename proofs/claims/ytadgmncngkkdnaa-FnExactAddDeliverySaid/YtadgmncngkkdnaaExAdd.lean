/-
  The walk of FnExactAddDelivery.
-/
import Derived.Test.YtadgmncngkkdnaaAddSpec
import Derived.Test.YtadgmncngkkdnaaListFDelivery
import Derived.Test.YtadgmncngkkdnaaMarkDelivery
namespace Go.Proofs.Ytadgmncngkkdnaa
open Go.ChangeShapes Go.WideShapes Go.ChangeAt Go.RowKit Go.Joins
set_option linter.unusedVariables false

set_option maxRecDepth 100000 in
set_option maxHeartbeats 8000000 in
theorem exAddDelivery' (A : Option Addr) (n c : Nat) (l : List De) (d : De) (hd : d.b.size ≤ maxLen) (w : World) (h : Rd w 4 A n (des l) ∧ n ≤ maxLen ∧ ∀ z ∈ l, z.b.size ≤ maxLen) :
    Calls Try.prog 4 #[.slice A n c, dev d] w fun e w' => e = .returned (.bool true) ∧ Below w.heap.size w w' := by
  obtain ⟨h1, hx, hs⟩ := h
  have hl1 := rd_delen h1
  have H1 := Lib.hid h1; have HS := Lib.hid hs; have HX := Lib.hid hx; have HD := Lib.hid hd
  generalize hr : deL l 1048576 = r
  have hfit : 0 ≤ r → n ≤ 1048000 ∨ True := fun _ => .inr trivial
  have hfit : 0 ≤ r → n ≤ 1048576 := fun h0 => by
    rw [← hr, deL, hl1] at h0
    split at h0 <;> omega
  have hr1 : r ≤ 1048576 := by rw [← hr, deL]; split <;> omega
  have HR := Lib.hid hr
  have hll : (adL l d).length ≤ n + 1 := by rw [← hl1]; exact adL_len l d
  have hll2 : (adL l d).length ≤ 11 := by
    cases hb : deB l
    · rw [(adL_bad hb).1]; simp
    · have := deB_len hb; have := adL_len l d; omega
  have hzz : Hid (∃ dz, d = dz) := Lib.hid ⟨_, rfl⟩
  have hdn : ((den d : Nat) : Int) = (d.b.size : Int) := by simp [den]
  clear h1 hs hx hr hl1
  generalize hb : adL l d = R at *
  generalize hbb : adB l d = bR at *
  generalize hrn : R.length = m at *
  have HY := Lib.hid hb; have HYB := Lib.hid hbb; have HRN := Lib.hid hrn; have HDN := Lib.hid hdn
  clear hb hbb hrn hdn
  obtain ⟨da, db, dc, dd⟩ := d
  simp only at hd HD HDN
  unfold maxLen at hd
  by_cases h0 : 0 ≤ r
  · have hn := hfit h0
    have hm : m ≤ 1048576 := by omega
    have HN := Lib.hid hn; have HM := Lib.hid hm
    clear hfit hll hll2
    by_cases hdl : (db.size : Int) ≤ r
    · have HDL := Lib.hid hdl
      clear hd
      go_enter Try.func4, Try.ntmps4
      go_wp2_with fail
      refine (szDeS_any _ _ _ _ _ _ (H1.out.alloc _) HX.out HS.out (by omega) (by omega)).mono ?_
      rw [HR.out]
      rintro e x1 ⟨rfl, hb⟩
      have Kd_1 := Lib.hid ((Bk.new w 35 #[.int .i64 da, .string db, .int .i64 dc, .int .i64 dd]).keep hb)
      have hb := bela hb
      have HB1 : Hid (Below w.heap.size w x1) := Lib.hid (belt (Below.refl w.heap.size w) hb)
      have cd_0_1 := Kd_1.out.cell 0 (v := .int .i64 da) rfl
      have cd_1_1 := Kd_1.out.cell 1 (v := .string db) rfl
      have cd_2_1 := Kd_1.out.cell 2 (v := .int .i64 dc) rfl
      have cd_3_1 := Kd_1.out.cell 3 (v := .int .i64 dd) rfl
      have ld_1 := Kd_1.out.lt
      clear hb
      go_wp2_with fail
      refine (szde_b ⟨da, db, dc, dd⟩ r _ HDL.out (by omega)).mono ?_
      rintro e x2 ⟨rfl, hb⟩
      rw [HDN.out]
      have Kd_2 := Lib.hid (Kd_1.out.keep hb)
      have HB2 : Hid (Below w.heap.size w x2) := Lib.hid (belt HB1.out hb)
      clear Kd_1 ld_1 cd_0_1 cd_1_1 cd_2_1 cd_3_1
      have cd_0_2 := Kd_2.out.cell 0 (v := .int .i64 da) rfl
      have cd_1_2 := Kd_2.out.cell 1 (v := .string db) rfl
      have cd_2_2 := Kd_2.out.cell 2 (v := .int .i64 dc) rfl
      have cd_3_2 := Kd_2.out.cell 3 (v := .int .i64 dd) rfl
      have ld_2 := Kd_2.out.lt
      clear HB1 hb
      go_wp2_with fail
      go_region_held3 (fun w' => w'.cell? ⟨w.heap.size, 0, none⟩ = some (.int .i64 da) ∧ w'.cell? ⟨w.heap.size, 1, none⟩ = some (.string db) ∧ w'.cell? ⟨w.heap.size, 2, none⟩ = some (.int .i64 dc) ∧ w'.cell? ⟨w.heap.size, 3, none⟩ = some (.int .i64 dd))
        (refine ⟨?_, ?_, ?_, ?_⟩ <;> (try refine drew_some ?_) <;> assumption)
        (first
          | (go_at_call 16
             refine (toDeS_any A n c l x2.drew (H1.out.below HB2.out).drew HN.out).mono ?_
             rintro e x3 ⟨v, rfl, ho, hb⟩
             have hb := beld hb
             have Kd_3 := Lib.hid (Kd_2.out.keep hb)
             have HB3 : Hid (Below w.heap.size w x3) := Lib.hid (belt HB2.out hb)
             clear Kd_2 ld_2 cd_0_2 cd_1_2 cd_2_2 cd_3_2
             have cd_0_3 := Kd_3.out.cell 0 (v := .int .i64 da) rfl
             have cd_1_3 := Kd_3.out.cell 1 (v := .string db) rfl
             have cd_2_3 := Kd_3.out.cell 2 (v := .int .i64 dc) rfl
             have cd_3_3 := Kd_3.out.cell 3 (v := .int .i64 dd) rfl
             have ld_3 := Kd_3.out.lt
             obtain ⟨Aa, ca, rfl, hc1, hc2, _⟩ := own_form ho
             have Ra_3 := Lib.hid ho
             have hbase := HB2.out.size
             have HBSa : Hid (w.heap.size ≤ x2.heap.size) := Lib.hid hbase
             clear HB2 ho hc1 hc2 hbase hb
             have HCa := Lib.hid (own_cap Ra_3.out))
          | (go_at_call 17
             refine (tode_b ⟨da, db, dc, dd⟩ x3).mono ?_
             rintro e x4 ⟨rfl, hb⟩
             have Kd_4 := Lib.hid (Kd_3.out.keep hb)
             have HB4 : Hid (Below w.heap.size w x4) := Lib.hid (belt HB3.out hb)
             have Ra_4 := Lib.hid (own_below Ra_3.out hb)
             clear Kd_3 ld_3 cd_0_3 cd_1_3 cd_2_3 cd_3_3
             have cd_0_4 := Kd_4.out.cell 0 (v := .int .i64 da) rfl
             have cd_1_4 := Kd_4.out.cell 1 (v := .string db) rfl
             have cd_2_4 := Kd_4.out.cell 2 (v := .int .i64 dc) rfl
             have cd_3_4 := Kd_4.out.cell 3 (v := .int .i64 dd) rfl
             have ld_4 := Kd_4.out.lt
             clear Ra_3 HB3 hb)
          | (go_at_call 10
             refine (sad_any Aa n ca l ⟨da, db, dc, dd⟩ x4 (rd_own Ra_4.out) HN.out HCa.out.1 HCa.out.2 HS.out HD.out).mono ?_
             rw [HY.out, HYB.out, HRN.out]
             rintro e x5 ⟨v, rfl, ho, hb⟩
             have Kd_5 := Lib.hid (Kd_4.out.keep hb)
             have HB5 : Hid (Below w.heap.size w x5) := Lib.hid (belt HB4.out hb)
             have Ra_5 := Lib.hid (own_below Ra_4.out hb)
             clear Kd_4 ld_4 cd_0_4 cd_1_4 cd_2_4 cd_3_4
             have cd_0_5 := Kd_5.out.cell 0 (v := .int .i64 da) rfl
             have cd_1_5 := Kd_5.out.cell 1 (v := .string db) rfl
             have cd_2_5 := Kd_5.out.cell 2 (v := .int .i64 dc) rfl
             have cd_3_5 := Kd_5.out.cell 3 (v := .int .i64 dd) rfl
             have ld_5 := Kd_5.out.lt
             obtain ⟨As, cs, rfl, hc1, hc2, _⟩ := own_form ho
             have Rs_5 := Lib.hid ho
             have hbase := HB4.out.size
             have HBSs : Hid (w.heap.size ≤ x4.heap.size) := Lib.hid hbase
             have AP_a_s := Lib.hid (own_apart Ra_4.out ho (Nat.le_refl _))
             clear Ra_4 HB4 ho hc1 hc2 hbase hb))
      clear Ra_5
      go_wp2_with fail
      refine (toDeS_any A n c l _ (H1.out.below HB5.out) HN.out).mono ?_
      rintro e x6 ⟨v, rfl, ho, hb⟩
      have Kd_6 := Lib.hid (Kd_5.out.keep hb)
      have HB6 : Hid (Below w.heap.size w x6) := Lib.hid (belt HB5.out hb)
      have Rs_6 := Lib.hid (own_below Rs_5.out hb)
      clear Kd_5 ld_5 cd_0_5 cd_1_5 cd_2_5 cd_3_5
      have cd_0_6 := Kd_6.out.cell 0 (v := .int .i64 da) rfl
      have cd_1_6 := Kd_6.out.cell 1 (v := .string db) rfl
      have cd_2_6 := Kd_6.out.cell 2 (v := .int .i64 dc) rfl
      have cd_3_6 := Kd_6.out.cell 3 (v := .int .i64 dd) rfl
      have ld_6 := Kd_6.out.lt
      obtain ⟨Ax, cx, rfl, hc1, hc2, _⟩ := own_form ho
      have Rx_6 := Lib.hid ho
      have hbase := HB5.out.size
      have HBSx : Hid (w.heap.size ≤ x5.heap.size) := Lib.hid hbase
      have AP_s_x := Lib.hid (own_apart Rs_5.out ho (Nat.le_refl _))
      clear Rs_5 HB5 ho hc1 hc2 hbase hb
      have HCx := Lib.hid (own_cap Rx_6.out)
      go_wp2_with fail
      refine (tode_b ⟨da, db, dc, dd⟩ x6).mono ?_
      rintro e x7 ⟨rfl, hb⟩
      have Kd_7 := Lib.hid (Kd_6.out.keep hb)
      have HB7 : Hid (Below w.heap.size w x7) := Lib.hid (belt HB6.out hb)
      have Rs_7 := Lib.hid (own_below Rs_6.out hb)
      have Rx_7 := Lib.hid (own_below Rx_6.out hb)
      clear Kd_6 ld_6 cd_0_6 cd_1_6 cd_2_6 cd_3_6
      have cd_0_7 := Kd_7.out.cell 0 (v := .int .i64 da) rfl
      have cd_1_7 := Kd_7.out.cell 1 (v := .string db) rfl
      have cd_2_7 := Kd_7.out.cell 2 (v := .int .i64 dc) rfl
      have cd_3_7 := Kd_7.out.cell 3 (v := .int .i64 dd) rfl
      have ld_7 := Kd_7.out.lt
      clear Rs_6 Rx_6 HB6 hb
      go_wp2_with fail
      refine (iad_any Ax n cx l ⟨da, db, dc, dd⟩ x7 (rd_own Rx_7.out) HN.out HCx.out.1 HCx.out.2 HS.out HD.out).mono ?_
      rw [HY.out, HYB.out, HRN.out]
      rintro e x8 ⟨v, rfl, ho, hb⟩
      have Kd_8 := Lib.hid (Kd_7.out.keep hb)
      have HB8 : Hid (Below w.heap.size w x8) := Lib.hid (belt HB7.out hb)
      have Rs_8 := Lib.hid (own_below Rs_7.out hb)
      have Rx_8 := Lib.hid (own_below Rx_7.out hb)
      clear Kd_7 ld_7 cd_0_7 cd_1_7 cd_2_7 cd_3_7
      have cd_0_8 := Kd_8.out.cell 0 (v := .int .i64 da) rfl
      have cd_1_8 := Kd_8.out.cell 1 (v := .string db) rfl
      have cd_2_8 := Kd_8.out.cell 2 (v := .int .i64 dc) rfl
      have cd_3_8 := Kd_8.out.cell 3 (v := .int .i64 dd) rfl
      have ld_8 := Kd_8.out.lt
      obtain ⟨Ag, cg, rfl, hc1, hc2, _⟩ := own_form ho
      have Rg_8 := Lib.hid ho
      have hbase := HB7.out.size
      have HBSg : Hid (w.heap.size ≤ x7.heap.size) := Lib.hid hbase
      have AP_s_g := Lib.hid (own_apart Rs_7.out ho (Nat.le_refl _))
      have AP_x_g := Lib.hid (own_apart Rx_7.out ho (Nat.le_refl _))
      clear Rs_7 Rx_7 HB7 ho hc1 hc2 hbase hb
      go_wp2_with fail
      refine (eqDeS_same _ _ _ _ _ _ _ (rd_own Rg_8.out) (rd_own Rs_8.out) HM.out).mono ?_
      rintro e x9 ⟨rfl, hb⟩
      have Kd_9 := Lib.hid (Kd_8.out.keep hb)
      have HB9 : Hid (Below w.heap.size w x9) := Lib.hid (belt HB8.out hb)
      have Rs_9 := Lib.hid (own_below Rs_8.out hb)
      have Rx_9 := Lib.hid (own_below Rx_8.out hb)
      have Rg_9 := Lib.hid (own_below Rg_8.out hb)
      clear Kd_8 ld_8 cd_0_8 cd_1_8 cd_2_8 cd_3_8
      have cd_0_9 := Kd_9.out.cell 0 (v := .int .i64 da) rfl
      have cd_1_9 := Kd_9.out.cell 1 (v := .string db) rfl
      have cd_2_9 := Kd_9.out.cell 2 (v := .int .i64 dc) rfl
      have cd_3_9 := Kd_9.out.cell 3 (v := .int .i64 dd) rfl
      have ld_9 := Kd_9.out.lt
      clear Rs_8 Rx_8 Rg_8 HB8 hb
      go_wp2_with fail
      refine (toDeS_any A n c l _ (H1.out.below HB9.out) HN.out).mono ?_
      rintro e x10 ⟨v, rfl, ho, hb⟩
      have Kd_10 := Lib.hid (Kd_9.out.keep hb)
      have HB10 : Hid (Below w.heap.size w x10) := Lib.hid (belt HB9.out hb)
      have Rs_10 := Lib.hid (own_below Rs_9.out hb)
      have Rx_10 := Lib.hid (own_below Rx_9.out hb)
      have Rg_10 := Lib.hid (own_below Rg_9.out hb)
      clear Kd_9 ld_9 cd_0_9 cd_1_9 cd_2_9 cd_3_9
      have cd_0_10 := Kd_10.out.cell 0 (v := .int .i64 da) rfl
      have cd_1_10 := Kd_10.out.cell 1 (v := .string db) rfl
      have cd_2_10 := Kd_10.out.cell 2 (v := .int .i64 dc) rfl
      have cd_3_10 := Kd_10.out.cell 3 (v := .int .i64 dd) rfl
      have ld_10 := Kd_10.out.lt
      obtain ⟨Ab, cb, rfl, hc1, hc2, _⟩ := own_form ho
      have Rb_10 := Lib.hid ho
      have hbase := HB9.out.size
      have HBSb : Hid (w.heap.size ≤ x9.heap.size) := Lib.hid hbase
      have AP_s_b := Lib.hid (own_apart Rs_9.out ho (Nat.le_refl _))
      have AP_x_b := Lib.hid (own_apart Rx_9.out ho (Nat.le_refl _))
      have AP_g_b := Lib.hid (own_apart Rg_9.out ho (Nat.le_refl _))
      clear Rs_9 Rx_9 Rg_9 HB9 ho hc1 hc2 hbase hb
      have HCb := Lib.hid (own_cap Rb_10.out)
      go_wp2_with fail
      refine (eqDeS_same _ _ _ _ _ _ _ (rd_own Rx_10.out) (rd_own Rb_10.out) HN.out).mono ?_
      rintro e x11 ⟨rfl, hb⟩
      have Kd_11 := Lib.hid (Kd_10.out.keep hb)
      have HB11 : Hid (Below w.heap.size w x11) := Lib.hid (belt HB10.out hb)
      have Rs_11 := Lib.hid (own_below Rs_10.out hb)
      have Rx_11 := Lib.hid (own_below Rx_10.out hb)
      have Rg_11 := Lib.hid (own_below Rg_10.out hb)
      have Rb_11 := Lib.hid (own_below Rb_10.out hb)
      clear Kd_10 ld_10 cd_0_10 cd_1_10 cd_2_10 cd_3_10
      have cd_0_11 := Kd_11.out.cell 0 (v := .int .i64 da) rfl
      have cd_1_11 := Kd_11.out.cell 1 (v := .string db) rfl
      have cd_2_11 := Kd_11.out.cell 2 (v := .int .i64 dc) rfl
      have cd_3_11 := Kd_11.out.cell 3 (v := .int .i64 dd) rfl
      have ld_11 := Kd_11.out.lt
      clear Rs_10 Rx_10 Rg_10 Rb_10 HB10 hb
      clear Rb_11
      go_wp2_with fail
      refine (markDe_any _ _ _ _ _ _ _ Rx_11.out HN.out (by omega) (by omega)).mono ?_
      rintro e x12 ⟨rfl, hown, hg⟩
      have Kd_12 := Lib.hid (Kd_11.out.grown hg (own_bk Rx_11.out Kd_11.out (by decide)))
      have HB12 : Hid (Below w.heap.size w x12) := Lib.hid (below_grown HB11.out hg Rx_11.out (by exact HBSx.out) HB11.out.size)
      have Rs_12 := Lib.hid (Rs_11.out.kept hg AP_s_x.out.1)
      have Rg_12 := Lib.hid (Rg_11.out.kept hg AP_x_g.out.2)
      clear Kd_11 ld_11 cd_0_11 cd_1_11 cd_2_11 cd_3_11
      have cd_0_12 := Kd_12.out.cell 0 (v := .int .i64 da) rfl
      have cd_1_12 := Kd_12.out.cell 1 (v := .string db) rfl
      have cd_2_12 := Kd_12.out.cell 2 (v := .int .i64 dc) rfl
      have cd_3_12 := Kd_12.out.cell 3 (v := .int .i64 dd) rfl
      have ld_12 := Kd_12.out.lt
      have Rx_12 := Lib.hid hown
      clear Rs_11 Rx_11 Rg_11 HB11 hown hg
      clear Rx_12
      go_wp2_with fail
      refine (eqDeS_same _ _ _ _ _ _ _ (rd_own Rg_12.out) (rd_own Rs_12.out) HM.out).mono ?_
      rintro e x13 ⟨rfl, hb⟩
      have Kd_13 := Lib.hid (Kd_12.out.keep hb)
      have HB13 : Hid (Below w.heap.size w x13) := Lib.hid (belt HB12.out hb)
      have Rs_13 := Lib.hid (own_below Rs_12.out hb)
      have Rg_13 := Lib.hid (own_below Rg_12.out hb)
      clear Kd_12 ld_12 cd_0_12 cd_1_12 cd_2_12 cd_3_12
      have cd_0_13 := Kd_13.out.cell 0 (v := .int .i64 da) rfl
      have cd_1_13 := Kd_13.out.cell 1 (v := .string db) rfl
      have cd_2_13 := Kd_13.out.cell 2 (v := .int .i64 dc) rfl
      have cd_3_13 := Kd_13.out.cell 3 (v := .int .i64 dd) rfl
      have ld_13 := Kd_13.out.lt
      clear Rs_12 Rg_12 HB12 hb
      go_wp2_with fail
      refine (markDe_any _ _ _ _ _ _ _ Rg_13.out HM.out (by omega) (by omega)).mono ?_
      rintro e x14 ⟨rfl, hown, hg⟩
      have Kd_14 := Lib.hid (Kd_13.out.grown hg (own_bk Rg_13.out Kd_13.out (by decide)))
      have HB14 : Hid (Below w.heap.size w x14) := Lib.hid (below_grown HB13.out hg Rg_13.out (by exact HBSg.out) HB13.out.size)
      have Rs_14 := Lib.hid (Rs_13.out.kept hg AP_s_g.out.1)
      clear Kd_13 ld_13 cd_0_13 cd_1_13 cd_2_13 cd_3_13
      have cd_0_14 := Kd_14.out.cell 0 (v := .int .i64 da) rfl
      have cd_1_14 := Kd_14.out.cell 1 (v := .string db) rfl
      have cd_2_14 := Kd_14.out.cell 2 (v := .int .i64 dc) rfl
      have cd_3_14 := Kd_14.out.cell 3 (v := .int .i64 dd) rfl
      have ld_14 := Kd_14.out.lt
      have Rg_14 := Lib.hid hown
      clear Rs_13 Rg_13 HB13 hown hg
      go_wp2_with fail
      refine (heldDe_any _ _ _ _ _ (rd_own Rg_14.out) HM.out (by omega) (by omega)).mono ?_
      rintro e x15 ⟨rfl, hb⟩
      have Kd_15 := Lib.hid (Kd_14.out.keep hb)
      have HB15 : Hid (Below w.heap.size w x15) := Lib.hid (belt HB14.out hb)
      have Rs_15 := Lib.hid (own_below Rs_14.out hb)
      have Rg_15 := Lib.hid (own_below Rg_14.out hb)
      clear Kd_14 ld_14 cd_0_14 cd_1_14 cd_2_14 cd_3_14
      have cd_0_15 := Kd_15.out.cell 0 (v := .int .i64 da) rfl
      have cd_1_15 := Kd_15.out.cell 1 (v := .string db) rfl
      have cd_2_15 := Kd_15.out.cell 2 (v := .int .i64 dc) rfl
      have cd_3_15 := Kd_15.out.cell 3 (v := .int .i64 dd) rfl
      have ld_15 := Kd_15.out.lt
      clear Rs_14 Rg_14 HB14 hb
      go_wp2_with fail
      go_region_held3 (fun w' => w'.cell? ⟨w.heap.size, 0, none⟩ = some (.int .i64 da) ∧ w'.cell? ⟨w.heap.size, 1, none⟩ = some (.string db) ∧ w'.cell? ⟨w.heap.size, 2, none⟩ = some (.int .i64 dc) ∧ w'.cell? ⟨w.heap.size, 3, none⟩ = some (.int .i64 dd))
        (refine ⟨?_, ?_, ?_, ?_⟩ <;> (try refine drew_some ?_) <;> assumption)
        (first
          | (go_at_call 16
             refine (toDeS_any A n c l x15.drew (H1.out.below HB15.out).drew HN.out).mono ?_
             rintro e x16 ⟨v, rfl, ho, hb⟩
             have hb := beld hb
             have Kd_16 := Lib.hid (Kd_15.out.keep hb)
             have HB16 : Hid (Below w.heap.size w x16) := Lib.hid (belt HB15.out hb)
             have Rs_16 := Lib.hid (own_below Rs_15.out hb)
             have Rg_16 := Lib.hid (own_below Rg_15.out hb)
             clear Kd_15 ld_15 cd_0_15 cd_1_15 cd_2_15 cd_3_15
             have cd_0_16 := Kd_16.out.cell 0 (v := .int .i64 da) rfl
             have cd_1_16 := Kd_16.out.cell 1 (v := .string db) rfl
             have cd_2_16 := Kd_16.out.cell 2 (v := .int .i64 dc) rfl
             have cd_3_16 := Kd_16.out.cell 3 (v := .int .i64 dd) rfl
             have ld_16 := Kd_16.out.lt
             obtain ⟨Ad2, cd2, rfl, hc1, hc2, _⟩ := own_form ho
             have Rd2_16 := Lib.hid ho
             have hbase := HB15.out.size
             have HBSd2 : Hid (w.heap.size ≤ x15.heap.size) := Lib.hid hbase
             have AP_s_d2 := Lib.hid (own_apart Rs_15.out ho (Nat.le_refl _))
             have AP_g_d2 := Lib.hid (own_apart Rg_15.out ho (Nat.le_refl _))
             clear Rs_15 Rg_15 HB15 ho hc1 hc2 hbase hb
             have HCd2 := Lib.hid (own_cap Rd2_16.out))
          | (go_at_call 17
             refine (tode_b ⟨da, db, dc, dd⟩ x16).mono ?_
             rintro e x17 ⟨rfl, hb⟩
             have Kd_17 := Lib.hid (Kd_16.out.keep hb)
             have HB17 : Hid (Below w.heap.size w x17) := Lib.hid (belt HB16.out hb)
             have Rs_17 := Lib.hid (own_below Rs_16.out hb)
             have Rg_17 := Lib.hid (own_below Rg_16.out hb)
             have Rd2_17 := Lib.hid (own_below Rd2_16.out hb)
             clear Kd_16 ld_16 cd_0_16 cd_1_16 cd_2_16 cd_3_16
             have cd_0_17 := Kd_17.out.cell 0 (v := .int .i64 da) rfl
             have cd_1_17 := Kd_17.out.cell 1 (v := .string db) rfl
             have cd_2_17 := Kd_17.out.cell 2 (v := .int .i64 dc) rfl
             have cd_3_17 := Kd_17.out.cell 3 (v := .int .i64 dd) rfl
             have ld_17 := Kd_17.out.lt
             clear Rs_16 Rg_16 Rd2_16 HB16 hb)
          | (go_at_call 9
             refine (iad_any Ad2 n cd2 l ⟨da, db, dc, dd⟩ x17 (rd_own Rd2_17.out) HN.out HCd2.out.1 HCd2.out.2 HS.out HD.out).mono ?_
             rw [HY.out, HYB.out, HRN.out]
             rintro e x18 ⟨v, rfl, ho, hb⟩
             have Kd_18 := Lib.hid (Kd_17.out.keep hb)
             have HB18 : Hid (Below w.heap.size w x18) := Lib.hid (belt HB17.out hb)
             have Rs_18 := Lib.hid (own_below Rs_17.out hb)
             have Rg_18 := Lib.hid (own_below Rg_17.out hb)
             have Rd2_18 := Lib.hid (own_below Rd2_17.out hb)
             clear Kd_17 ld_17 cd_0_17 cd_1_17 cd_2_17 cd_3_17
             have cd_0_18 := Kd_18.out.cell 0 (v := .int .i64 da) rfl
             have cd_1_18 := Kd_18.out.cell 1 (v := .string db) rfl
             have cd_2_18 := Kd_18.out.cell 2 (v := .int .i64 dc) rfl
             have cd_3_18 := Kd_18.out.cell 3 (v := .int .i64 dd) rfl
             have ld_18 := Kd_18.out.lt
             obtain ⟨Ah, ch, rfl, hc1, hc2, _⟩ := own_form ho
             have Rh_18 := Lib.hid ho
             have hbase := HB17.out.size
             have HBSh : Hid (w.heap.size ≤ x17.heap.size) := Lib.hid hbase
             have AP_s_h := Lib.hid (own_apart Rs_17.out ho (Nat.le_refl _))
             have AP_g_h := Lib.hid (own_apart Rg_17.out ho (Nat.le_refl _))
             have AP_d2_h := Lib.hid (own_apart Rd2_17.out ho (Nat.le_refl _))
             clear Rs_17 Rg_17 Rd2_17 HB17 ho hc1 hc2 hbase hb))
      clear Rd2_18
      clear Kd_18 ld_18 cd_0_18 cd_1_18 cd_2_18 cd_3_18
      go_wp2_with fail
      refine (eqDeS_same _ _ _ _ _ _ _ (rd_own Rh_18.out) (rd_own Rs_18.out) HM.out).mono ?_
      rintro e x19 ⟨rfl, hb⟩
      have HB19 : Hid (Below w.heap.size w x19) := Lib.hid (belt HB18.out hb)
      have Rs_19 := Lib.hid (own_below Rs_18.out hb)
      have Rg_19 := Lib.hid (own_below Rg_18.out hb)
      have Rh_19 := Lib.hid (own_below Rh_18.out hb)
      clear Rs_18 Rg_18 Rh_18 HB18 hb
      clear Rh_19
      clear Rs_19
      go_wp2_with fail
      refine (heldDe_any _ _ _ _ _ (rd_own Rg_19.out) HM.out (by omega) (by omega)).mono ?_
      rintro e x20 ⟨rfl, hb⟩
      have HB20 : Hid (Below w.heap.size w x20) := Lib.hid (belt HB19.out hb)
      have Rg_20 := Lib.hid (own_below Rg_19.out hb)
      clear Rg_19 HB19 hb
      go_wp2
      go_ret
      exact ⟨rfl, HB20.out⟩
    · have HDL : Hid (r < (db.size : Int)) := Lib.hid (by omega)
      clear hdl
      go_enter Try.func4, Try.ntmps4
      go_wp2_with fail
      refine (szDeS_any _ _ _ _ _ _ (H1.out.alloc _) HX.out HS.out (by omega) (by omega)).mono ?_
      rw [HR.out]
      rintro e x1 ⟨rfl, hb⟩
      have HK := Lib.hid ((Bk.new w 35 #[.int .i64 da, .string db, .int .i64 dc, .int .i64 dd]).keep hb)
      have HB := Lib.hid (bela hb)
      have c0 := HK.out.cell 0 (v := .int .i64 da) rfl
      have c1 := HK.out.cell 1 (v := .string db) rfl
      have c2 := HK.out.cell 2 (v := .int .i64 dc) rfl
      have c3 := HK.out.cell 3 (v := .int .i64 dd) rfl
      have cl := HK.out.lt
      clear hb
      go_wp2_with fail
      refine (szde_no ⟨da, db, dc, dd⟩ r _ HDL.out HD.out (by omega) (by omega)).mono ?_
      rintro e x2 ⟨rfl, hb⟩
      have HB2 := Lib.hid (belt HB.out hb)
      clear hb
      go_wp2
      go_ret
      exact ⟨rfl, HB2.out⟩
  · have h0' : r < 0 := by omega
    clear hfit h0
    go_enter Try.func4, Try.ntmps4
    go_wp2_with fail
    refine (szDeS_any _ _ _ _ _ _ (H1.out.alloc _) HX.out HS.out (by omega) (by omega)).mono ?_
    rw [HR.out]
    rintro e x1 ⟨rfl, hb⟩
    have HB := Lib.hid (bela hb)
    clear hb
    go_wp2
    go_ret
    exact ⟨rfl, HB.out⟩
theorem exAddDelivery (A : Option Addr) (n c : Nat) (l : List De) (a : Int) (b : ByteArray) (hd : b.size ≤ maxLen) (c' d' : Int) (w : World) (h : Rd w 4 A n (des l) ∧ n ≤ maxLen ∧ ∀ z ∈ l, z.b.size ≤ maxLen) :
    Calls Try.prog 4 #[.slice A n c, .agg #[.int .i64 a, .string b, .int .i64 c', .int .i64 d']] w fun e w' => e = .returned (.bool true) ∧ Below w.heap.size w w' :=
  exAddDelivery' A n c l ⟨a, b, c', d'⟩ hd w h
end Go.Proofs.Ytadgmncngkkdnaa
