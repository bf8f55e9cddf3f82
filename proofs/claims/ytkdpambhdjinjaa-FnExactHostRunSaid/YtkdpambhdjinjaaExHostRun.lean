/-
  The walk of FnExactHostRun.
-/
import Derived.Test.YtkdpambhdjinjaaHost6
namespace Go.Proofs.Ytkdpambhdjinjaa
open Go.ChangeShapes Go.WideShapes Go.ChangeAt Go.RowKit Go.Joins
set_option linter.unusedVariables false

theorem tos_b (s : ByteArray) (f u : Int) (w : World) :
    Calls Try.prog 13 #[sv s f u] w fun e w' => e = .returned (sv s f u) ∧ Below w.heap.size w w' :=
  (tos_any s f u w).mono fun e w' ⟨he, o1, o2, o3, hw⟩ => ⟨he, bel3 hw⟩
theorem eqs_b (s : ByteArray) (f u : Int) (w : World) :
    Calls Try.prog 22 #[sv s f u, sv s f u] w fun e w' => e = .returned (.bool true) ∧ Below w.heap.size w w' :=
  (eqs_same s f u w).mono fun e w' ⟨he, o1, o2, hw⟩ => ⟨he, bel2 hw⟩
theorem szs_b (s : ByteArray) (f u : Int) (w : World) (h : (s.size : Int) ≤ 1048576) :
    Calls Try.prog 11 #[sv s f u, .int .i64 1048576] w fun e w' => e = .returned (.int .i64 (1048576 - (s.size : Int))) ∧ Below w.heap.size w w' :=
  (szs_any s f u w h).mono fun e w' ⟨he, o1, hw⟩ => ⟨he, bel1 hw⟩

set_option maxRecDepth 100000 in
set_option maxHeartbeats 8000000 in
theorem exHostRun (s : ByteArray) (hs : s.size ≤ maxLen) (f u : Int) (A : Option Addr) (n c : Nat) (ts : List Int) (B : Option Addr) (m d : Nat) (gs : List Bool) (w : World) (h1 : Rd w 1 A n (iv ts) ∧ n ≤ maxLen) (h2 : Rd w 1 B m (bvs gs) ∧ m ≤ maxLen) :
    Calls Try.prog 10 #[sv s f u, .slice A n c, .slice B m d] w fun e w' => e = .returned (.bool true) ∧ Below w.heap.size w w' := by
  obtain ⟨h1, hx1⟩ := h1
  obtain ⟨h2, hx2⟩ := h2
  have HS := Lib.hid hs
  have H1 := Lib.hid h1; have H2 := Lib.hid h2; clear h1 h2
  simp only [maxLen] at hx1 hx2 hs
  by_cases hn : n ≤ 1048576
  · by_cases hm : m ≤ 1048576
    · by_cases hl : (s.size : Int) ≤ 1048576
      · clear hx1 hx2 hs
        generalize hr : hrR s f u ts gs = R
        generalize hwd : hrW s f u ts gs = Wd
        obtain ⟨zf, zu, zm⟩ := R
        have HR := Lib.hid hr; have HWD := Lib.hid hwd; clear hr hwd
        have HN := Lib.hid hn; have HM := Lib.hid hm; have HL := Lib.hid hl
        go_enter Try.func10, Try.ntmps10
        go_wp2_with fail
        refine (szs_b _ _ _ _ HL.out).mono ?_
        rintro e x1 ⟨rfl, hb⟩
        have Kh_1 := Lib.hid ((Bk.new w 23 #[.string s, .int .i64 f, .int .i64 u]).keep hb)
        have hb := bela hb
        have HB1 : Hid (Below w.heap.size w x1) := Lib.hid (belt (Below.refl w.heap.size w) hb)
        have ch_0_1 := Kh_1.out.cell 0 (v := .string s) rfl
        have ch_1_1 := Kh_1.out.cell 1 (v := .int .i64 f) rfl
        have ch_2_1 := Kh_1.out.cell 2 (v := .int .i64 u) rfl
        have lh_1 := Kh_1.out.lt
        clear hb
        go_wp2_with fail
        refine (tos_b _ _ _ _).mono ?_
        rintro e x2 ⟨rfl, hb⟩
        have Kh_2 := Lib.hid (Kh_1.out.keep hb)
        have HB2 : Hid (Below w.heap.size w x2) := Lib.hid (belt HB1.out hb)
        clear Kh_1 lh_1 ch_0_1 ch_1_1 ch_2_1
        have ch_0_2 := Kh_2.out.cell 0 (v := .string s) rfl
        have ch_1_2 := Kh_2.out.cell 1 (v := .int .i64 f) rfl
        have ch_2_2 := Kh_2.out.cell 2 (v := .int .i64 u) rfl
        have lh_2 := Kh_2.out.lt
        clear HB1 hb
        go_wp2_with fail
        refine (toI_any _ _ _ _ _ (H1.out.below HB2.out) HN.out).mono ?_
        rintro e x3 ⟨v, rfl, ho, hb⟩
        have Kh_3 := Lib.hid (Kh_2.out.keep hb)
        have HB3 : Hid (Below w.heap.size w x3) := Lib.hid (belt HB2.out hb)
        clear Kh_2 lh_2 ch_0_2 ch_1_2 ch_2_2
        have ch_0_3 := Kh_3.out.cell 0 (v := .string s) rfl
        have ch_1_3 := Kh_3.out.cell 1 (v := .int .i64 f) rfl
        have ch_2_3 := Kh_3.out.cell 2 (v := .int .i64 u) rfl
        have lh_3 := Kh_3.out.lt
        obtain ⟨Aa, ca, rfl, hc1, hc2, _⟩ := own_form ho
        have Ra_3 := Lib.hid ho
        have hbase := HB2.out.size
        have HBSa : Hid (w.heap.size ≤ x2.heap.size) := Lib.hid hbase
        clear HB2 ho hc1 hc2 hbase hb
        go_wp2_with fail
        refine (toB_any _ _ _ _ _ (H2.out.below HB3.out) HM.out).mono ?_
        rintro e x4 ⟨v, rfl, ho, hb⟩
        have Kh_4 := Lib.hid (Kh_3.out.keep hb)
        have HB4 : Hid (Below w.heap.size w x4) := Lib.hid (belt HB3.out hb)
        have Ra_4 := Lib.hid (own_below Ra_3.out hb)
        clear Kh_3 lh_3 ch_0_3 ch_1_3 ch_2_3
        have ch_0_4 := Kh_4.out.cell 0 (v := .string s) rfl
        have ch_1_4 := Kh_4.out.cell 1 (v := .int .i64 f) rfl
        have ch_2_4 := Kh_4.out.cell 2 (v := .int .i64 u) rfl
        have lh_4 := Kh_4.out.lt
        obtain ⟨Ab, cb, rfl, hc1, hc2, _⟩ := own_form ho
        have Rb_4 := Lib.hid ho
        have hbase := HB3.out.size
        have HBSb : Hid (w.heap.size ≤ x3.heap.size) := Lib.hid hbase
        have AP_a_b := Lib.hid (own_apart Ra_3.out ho (Nat.le_refl _))
        clear Ra_3 HB3 ho hc1 hc2 hbase hb
        go_wp2_with fail
        refine (shr_any _ _ _ _ _ _ _ _ _ _ _ _ HS.out (rd_own Ra_4.out) (rd_own Rb_4.out) HN.out).mono ?_
        rw [HR.out, HWD.out]
        rintro e x5 ⟨rfl, hb⟩
        have Kh_5 := Lib.hid (Kh_4.out.keep hb)
        have HB5 : Hid (Below w.heap.size w x5) := Lib.hid (belt HB4.out hb)
        have Ra_5 := Lib.hid (own_below Ra_4.out hb)
        have Rb_5 := Lib.hid (own_below Rb_4.out hb)
        clear Kh_4 lh_4 ch_0_4 ch_1_4 ch_2_4
        have ch_0_5 := Kh_5.out.cell 0 (v := .string s) rfl
        have ch_1_5 := Kh_5.out.cell 1 (v := .int .i64 f) rfl
        have ch_2_5 := Kh_5.out.cell 2 (v := .int .i64 u) rfl
        have lh_5 := Kh_5.out.lt
        clear Ra_4 Rb_4 HB4 hb
        clear Ra_5
        clear Rb_5
        go_wp2_with fail
        refine (toI_any _ _ _ _ _ ((H1.out.below HB5.out).alloc _) HN.out).mono ?_
        rintro e x6 ⟨v, rfl, ho, hb⟩
        have Ks_6 := Lib.hid ((Bk.new x5 26 #[.string Wd, .int .i64 zf, .int .i64 zu]).keep hb)
        have hb := bela hb
        have Kh_6 := Lib.hid (Kh_5.out.keep hb)
        have HB6 : Hid (Below w.heap.size w x6) := Lib.hid (belt HB5.out hb)
        clear Kh_5 lh_5 ch_0_5 ch_1_5 ch_2_5
        have ch_0_6 := Kh_6.out.cell 0 (v := .string s) rfl
        have ch_1_6 := Kh_6.out.cell 1 (v := .int .i64 f) rfl
        have ch_2_6 := Kh_6.out.cell 2 (v := .int .i64 u) rfl
        have lh_6 := Kh_6.out.lt
        have cs_0_6 := Ks_6.out.cell 0 (v := .string Wd) rfl
        have cs_1_6 := Ks_6.out.cell 1 (v := .int .i64 zf) rfl
        have cs_2_6 := Ks_6.out.cell 2 (v := .int .i64 zu) rfl
        have ls_6 := Ks_6.out.lt
        obtain ⟨Ax, cx, rfl, hc1, hc2, _⟩ := own_form ho
        have Rx_6 := Lib.hid ho
        have hbase := HB5.out.size
        have HBSx : Hid (w.heap.size ≤ x5.heap.size) := Lib.hid hbase
        clear HB5 ho hc1 hc2 hbase hb
        go_wp2_with fail
        refine (toB_any _ _ _ _ _ (H2.out.below HB6.out) HM.out).mono ?_
        rintro e x7 ⟨v, rfl, ho, hb⟩
        have Kh_7 := Lib.hid (Kh_6.out.keep hb)
        have Ks_7 := Lib.hid (Ks_6.out.keep hb)
        have HB7 : Hid (Below w.heap.size w x7) := Lib.hid (belt HB6.out hb)
        have Rx_7 := Lib.hid (own_below Rx_6.out hb)
        clear Kh_6 lh_6 ch_0_6 ch_1_6 ch_2_6 Ks_6 ls_6 cs_0_6 cs_1_6 cs_2_6
        have ch_0_7 := Kh_7.out.cell 0 (v := .string s) rfl
        have ch_1_7 := Kh_7.out.cell 1 (v := .int .i64 f) rfl
        have ch_2_7 := Kh_7.out.cell 2 (v := .int .i64 u) rfl
        have lh_7 := Kh_7.out.lt
        have cs_0_7 := Ks_7.out.cell 0 (v := .string Wd) rfl
        have cs_1_7 := Ks_7.out.cell 1 (v := .int .i64 zf) rfl
        have cs_2_7 := Ks_7.out.cell 2 (v := .int .i64 zu) rfl
        have ls_7 := Ks_7.out.lt
        obtain ⟨Ay, cy, rfl, hc1, hc2, _⟩ := own_form ho
        have Ry_7 := Lib.hid ho
        have hbase := HB6.out.size
        have HBSy : Hid (w.heap.size ≤ x6.heap.size) := Lib.hid hbase
        have AP_x_y := Lib.hid (own_apart Rx_6.out ho (Nat.le_refl _))
        clear Rx_6 HB6 ho hc1 hc2 hbase hb
        go_wp2_with fail
        refine (tos_b _ _ _ _).mono ?_
        rintro e x8 ⟨rfl, hb⟩
        have Kh_8 := Lib.hid (Kh_7.out.keep hb)
        have Ks_8 := Lib.hid (Ks_7.out.keep hb)
        have HB8 : Hid (Below w.heap.size w x8) := Lib.hid (belt HB7.out hb)
        have Rx_8 := Lib.hid (own_below Rx_7.out hb)
        have Ry_8 := Lib.hid (own_below Ry_7.out hb)
        clear Kh_7 lh_7 ch_0_7 ch_1_7 ch_2_7 Ks_7 ls_7 cs_0_7 cs_1_7 cs_2_7
        have ch_0_8 := Kh_8.out.cell 0 (v := .string s) rfl
        have ch_1_8 := Kh_8.out.cell 1 (v := .int .i64 f) rfl
        have ch_2_8 := Kh_8.out.cell 2 (v := .int .i64 u) rfl
        have lh_8 := Kh_8.out.lt
        have cs_0_8 := Ks_8.out.cell 0 (v := .string Wd) rfl
        have cs_1_8 := Ks_8.out.cell 1 (v := .int .i64 zf) rfl
        have cs_2_8 := Ks_8.out.cell 2 (v := .int .i64 zu) rfl
        have ls_8 := Ks_8.out.lt
        clear Rx_7 Ry_7 HB7 hb
        go_wp2_with fail
        refine (ihr_any _ _ _ _ _ _ _ _ _ _ _ _ HS.out (rd_own Rx_8.out) (rd_own Ry_8.out) HN.out).mono ?_
        rw [HR.out, HWD.out]
        rintro e x9 ⟨rfl, hb⟩
        have Kh_9 := Lib.hid (Kh_8.out.keep hb)
        have Ks_9 := Lib.hid (Ks_8.out.keep hb)
        have HB9 : Hid (Below w.heap.size w x9) := Lib.hid (belt HB8.out hb)
        have Rx_9 := Lib.hid (own_below Rx_8.out hb)
        have Ry_9 := Lib.hid (own_below Ry_8.out hb)
        clear Kh_8 lh_8 ch_0_8 ch_1_8 ch_2_8 Ks_8 ls_8 cs_0_8 cs_1_8 cs_2_8
        have ch_0_9 := Kh_9.out.cell 0 (v := .string s) rfl
        have ch_1_9 := Kh_9.out.cell 1 (v := .int .i64 f) rfl
        have ch_2_9 := Kh_9.out.cell 2 (v := .int .i64 u) rfl
        have lh_9 := Kh_9.out.lt
        have cs_0_9 := Ks_9.out.cell 0 (v := .string Wd) rfl
        have cs_1_9 := Ks_9.out.cell 1 (v := .int .i64 zf) rfl
        have cs_2_9 := Ks_9.out.cell 2 (v := .int .i64 zu) rfl
        have ls_9 := Ks_9.out.lt
        clear Rx_8 Ry_8 HB8 hb
        go_wp2_with fail
        refine (eqs_b _ _ _ _).mono ?_
        rintro e x10 ⟨rfl, hb⟩
        have Kg_10 := Lib.hid ((Bk.new x9 26 #[.string Wd, .int .i64 zf, .int .i64 zu]).keep hb)
        have hb := bela hb
        have Kh_10 := Lib.hid (Kh_9.out.keep hb)
        have Ks_10 := Lib.hid (Ks_9.out.keep hb)
        have HB10 : Hid (Below w.heap.size w x10) := Lib.hid (belt HB9.out hb)
        have Rx_10 := Lib.hid (own_below Rx_9.out hb)
        have Ry_10 := Lib.hid (own_below Ry_9.out hb)
        clear Kh_9 lh_9 ch_0_9 ch_1_9 ch_2_9 Ks_9 ls_9 cs_0_9 cs_1_9 cs_2_9
        have ch_0_10 := Kh_10.out.cell 0 (v := .string s) rfl
        have ch_1_10 := Kh_10.out.cell 1 (v := .int .i64 f) rfl
        have ch_2_10 := Kh_10.out.cell 2 (v := .int .i64 u) rfl
        have lh_10 := Kh_10.out.lt
        have cs_0_10 := Ks_10.out.cell 0 (v := .string Wd) rfl
        have cs_1_10 := Ks_10.out.cell 1 (v := .int .i64 zf) rfl
        have cs_2_10 := Ks_10.out.cell 2 (v := .int .i64 zu) rfl
        have ls_10 := Ks_10.out.lt
        have cg_0_10 := Kg_10.out.cell 0 (v := .string Wd) rfl
        have cg_1_10 := Kg_10.out.cell 1 (v := .int .i64 zf) rfl
        have cg_2_10 := Kg_10.out.cell 2 (v := .int .i64 zu) rfl
        have lg_10 := Kg_10.out.lt
        clear Rx_9 Ry_9 HB9 hb
        clear Ks_10 ls_10 cs_0_10 cs_1_10 cs_2_10
        clear Kg_10 lg_10 cg_0_10 cg_1_10 cg_2_10
        clear Kh_10 lh_10 ch_0_10 ch_1_10 ch_2_10
        go_wp2_with fail
        refine (toI_any _ _ _ _ _ (H1.out.below HB10.out) HN.out).mono ?_
        rintro e x11 ⟨v, rfl, ho, hb⟩
        have HB11 : Hid (Below w.heap.size w x11) := Lib.hid (belt HB10.out hb)
        have Rx_11 := Lib.hid (own_below Rx_10.out hb)
        have Ry_11 := Lib.hid (own_below Ry_10.out hb)
        obtain ⟨Aa2, ca2, rfl, hc1, hc2, _⟩ := own_form ho
        have Ra2_11 := Lib.hid ho
        have hbase := HB10.out.size
        have HBSa2 : Hid (w.heap.size ≤ x10.heap.size) := Lib.hid hbase
        have AP_x_a2 := Lib.hid (own_apart Rx_10.out ho (Nat.le_refl _))
        have AP_y_a2 := Lib.hid (own_apart Ry_10.out ho (Nat.le_refl _))
        clear Rx_10 Ry_10 HB10 ho hc1 hc2 hbase hb
        go_wp2_with fail
        refine (eqI_same _ _ _ _ _ _ _ (rd_own Rx_11.out) (rd_own Ra2_11.out) HN.out).mono ?_
        rintro e x12 ⟨rfl, q, hw⟩
        have hb := belq hw
        clear hw
        have HB12 : Hid (Below w.heap.size w x12) := Lib.hid (belt HB11.out hb)
        have Rx_12 := Lib.hid (own_below Rx_11.out hb)
        have Ry_12 := Lib.hid (own_below Ry_11.out hb)
        have Ra2_12 := Lib.hid (own_below Ra2_11.out hb)
        clear Rx_11 Ry_11 Ra2_11 HB11 hb
        clear Ra2_12
        go_wp2_with fail
        refine (toB_any _ _ _ _ _ (H2.out.below HB12.out) HM.out).mono ?_
        rintro e x13 ⟨v, rfl, ho, hb⟩
        have HB13 : Hid (Below w.heap.size w x13) := Lib.hid (belt HB12.out hb)
        have Rx_13 := Lib.hid (own_below Rx_12.out hb)
        have Ry_13 := Lib.hid (own_below Ry_12.out hb)
        obtain ⟨Ab2, cb2, rfl, hc1, hc2, _⟩ := own_form ho
        have Rb2_13 := Lib.hid ho
        have hbase := HB12.out.size
        have HBSb2 : Hid (w.heap.size ≤ x12.heap.size) := Lib.hid hbase
        have AP_x_b2 := Lib.hid (own_apart Rx_12.out ho (Nat.le_refl _))
        have AP_y_b2 := Lib.hid (own_apart Ry_12.out ho (Nat.le_refl _))
        clear Rx_12 Ry_12 HB12 ho hc1 hc2 hbase hb
        go_wp2_with fail
        refine (eqB_same _ _ _ _ _ _ _ (rd_own Ry_13.out) (rd_own Rb2_13.out) HM.out).mono ?_
        rintro e x14 ⟨rfl, q, hw⟩
        have hb := belq hw
        clear hw
        have HB14 : Hid (Below w.heap.size w x14) := Lib.hid (belt HB13.out hb)
        have Rx_14 := Lib.hid (own_below Rx_13.out hb)
        have Ry_14 := Lib.hid (own_below Ry_13.out hb)
        have Rb2_14 := Lib.hid (own_below Rb2_13.out hb)
        clear Rx_13 Ry_13 Rb2_13 HB13 hb
        clear Rb2_14
        go_wp2
        go_ret
        exact ⟨rfl, HB14.out⟩
      · have hl' : (1048576 : Int) < (s.size : Int) := by omega
        have hs' : (s.size : Int) ≤ 9223372036854775807 := by omega
        have HL := Lib.hid hl'; have HX := Lib.hid hs'; clear hl hl' hs hs'
        go_enter Try.func10, Try.ntmps10
        go_wp2_with (first | (go_at_call 11; refine (szs_no _ _ _ _ HL.out HX.out).mono ?_; rintro e w1 ⟨rfl, o1, rfl⟩))
        go_ret
        exact ⟨rfl, by go_grown⟩
    · have hm' : (1048576 : Int) < (m : Int) := by omega
      go_enter Try.func10, Try.ntmps10
      go_wp2
      go_ret
      exact ⟨rfl, by go_grown⟩
  · have hn' : (1048576 : Int) < (n : Int) := by omega
    go_enter Try.func10, Try.ntmps10
    go_wp2
    go_ret
    exact ⟨rfl, by go_grown⟩
end Go.Proofs.Ytkdpambhdjinjaa
