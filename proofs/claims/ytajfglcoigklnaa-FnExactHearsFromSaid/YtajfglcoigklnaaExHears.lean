/-
  The walk of FnExactHearsFrom.
-/
import Derived.Test.YtajfglcoigklnaaHears2
import Derived.Test.YtajfglcoigklnaaActIn
import Derived.Test.YtajfglcoigklnaaListFBlock
namespace Go.Proofs.Ytajfglcoigklnaa
open Go.ChangeShapes Go.WideShapes Go.ChangeAt Go.RowKit Go.Joins
set_option linter.unusedVariables false

set_option maxRecDepth 100000 in
set_option maxHeartbeats 8000000 in
theorem exHearsFrom (A : Option Addr) (n c : Nat) (l : List Bl) (a : Ac) (w : World) (h : Rd w 3 A n (bls l) ∧ n ≤ maxLen ∧ ∀ z ∈ l, z.a.size ≤ maxLen) (ha : a.who.a.size ≤ maxLen ∧ a.who.b.size ≤ maxLen ∧ a.what.size ≤ maxLen) :
    Calls Try.prog 8 #[.slice A n c, acv a] w fun e w' => e = .returned (.bool true) ∧ Below w.heap.size w w' := by
  obtain ⟨h1, hx, hs⟩ := h
  have hl1 := rd_bllen h1
  have H1 := Lib.hid h1; have HS := Lib.hid hs; have HX := Lib.hid hx; have HA := Lib.hid ha; have HA1 := Lib.hid ha.1; have HA2 := Lib.hid ha.2.1; have HA3 := Lib.hid ha.2.2
  generalize hr : blL l 1048576 = r
  have hfit : 0 ≤ r → n ≤ 1048576 := fun h0 => by
    rw [← hr, blL, hl1] at h0
    split at h0 <;> omega
  have hr1 : r ≤ 1048576 := by rw [← hr, blL]; split <;> omega
  have HR := Lib.hid hr
  clear h1 hs hx hr hl1 ha
  generalize hb : hfB l a = R at *
  have HY := Lib.hid hb
  clear hb
  obtain ⟨ak, an, ⟨ax, ay⟩, at_⟩ := a
  simp only at HA HA1 HA2 HA3
  by_cases h0 : 0 ≤ r
  · have hn := hfit h0
    have HN := Lib.hid hn
    clear hfit
    by_cases hdl : (ax.size : Int) + (ay.size : Int) + (at_.size : Int) ≤ r
    · have HDL := Lib.hid hdl
      have hd2 : decide (r - (ax.size : Int) - (ay.size : Int) - (at_.size : Int) < 0) = false := by simp; omega
      go_enter Try.func8, Try.ntmps8
      go_wp2_with fail
      refine (szBlS_any _ _ _ _ _ _ (H1.out.alloc _) HX.out HS.out (by omega) (by omega)).mono ?_
      rw [HR.out]
      rintro e x1 ⟨rfl, hb⟩
      have Kd_1 := Lib.hid ((Bk.new w 52 #[.int .i64 ak, .int .i64 an, .string ax, .string ay, .string at_]).keep hb)
      have hb := bela hb
      have HB1 : Hid (Below w.heap.size w x1) := Lib.hid (belt (Below.refl w.heap.size w) hb)
      have cd_0_1 := Kd_1.out.cell 0 (v := .int .i64 ak) rfl
      have cd_1_1 := Kd_1.out.cell 1 (v := .int .i64 an) rfl
      have cd_2_1 := Kd_1.out.cell 2 (v := .string ax) rfl
      have cd_3_1 := Kd_1.out.cell 3 (v := .string ay) rfl
      have cd_4_1 := Kd_1.out.cell 4 (v := .string at_) rfl
      have ld_1 := Kd_1.out.lt
      clear hb
      go_wp2_with fail
      refine (szac_b ⟨ak, an, ⟨ax, ay⟩, at_⟩ r _ HDL.out (by omega)).mono ?_
      rintro e x2 ⟨rfl, hb⟩
      have Kd_2 := Lib.hid (Kd_1.out.keep hb)
      have HB2 : Hid (Below w.heap.size w x2) := Lib.hid (belt HB1.out hb)
      clear Kd_1 ld_1 cd_0_1 cd_1_1 cd_2_1 cd_3_1 cd_4_1
      have cd_0_2 := Kd_2.out.cell 0 (v := .int .i64 ak) rfl
      have cd_1_2 := Kd_2.out.cell 1 (v := .int .i64 an) rfl
      have cd_2_2 := Kd_2.out.cell 2 (v := .string ax) rfl
      have cd_3_2 := Kd_2.out.cell 3 (v := .string ay) rfl
      have cd_4_2 := Kd_2.out.cell 4 (v := .string at_) rfl
      have ld_2 := Kd_2.out.lt
      clear HB1 hb
      go_wp2_with fail
      go_region_held3 (fun w' => w'.cell? ⟨w.heap.size, 0, none⟩ = some (.int .i64 ak) ∧ w'.cell? ⟨w.heap.size, 1, none⟩ = some (.int .i64 an) ∧ w'.cell? ⟨w.heap.size, 2, none⟩ = some (.string ax) ∧ w'.cell? ⟨w.heap.size, 3, none⟩ = some (.string ay) ∧ w'.cell? ⟨w.heap.size, 4, none⟩ = some (.string at_))
        (refine ⟨?_, ?_, ?_, ?_, ?_⟩ <;> (try refine drew_some ?_) <;> assumption)
        (first
          | (go_at_call 21
             refine (toBlS_any A n c l x2.drew (H1.out.below HB2.out).drew HN.out).mono ?_
             rintro e x3 ⟨v, rfl, ho, hb⟩
             have hb := beld hb
             have Kd_3 := Lib.hid (Kd_2.out.keep hb)
             have HB3 : Hid (Below w.heap.size w x3) := Lib.hid (belt HB2.out hb)
             clear Kd_2 ld_2 cd_0_2 cd_1_2 cd_2_2 cd_3_2 cd_4_2
             have cd_0_3 := Kd_3.out.cell 0 (v := .int .i64 ak) rfl
             have cd_1_3 := Kd_3.out.cell 1 (v := .int .i64 an) rfl
             have cd_2_3 := Kd_3.out.cell 2 (v := .string ax) rfl
             have cd_3_3 := Kd_3.out.cell 3 (v := .string ay) rfl
             have cd_4_3 := Kd_3.out.cell 4 (v := .string at_) rfl
             have ld_3 := Kd_3.out.lt
             obtain ⟨Aa, ca, rfl, hc1, hc2, _⟩ := own_form ho
             have Ra_3 := Lib.hid ho
             have hbase := HB2.out.size
             have HBSa : Hid (w.heap.size ≤ x2.heap.size) := Lib.hid hbase
             clear HB2 ho hc1 hc2 hbase hb
             have HCa := Lib.hid (own_cap Ra_3.out))
          | (go_at_call 28
             refine (toac_b ⟨ak, an, ⟨ax, ay⟩, at_⟩ x3).mono ?_
             rintro e x4 ⟨rfl, hb⟩
             have Kd_4 := Lib.hid (Kd_3.out.keep hb)
             have HB4 : Hid (Below w.heap.size w x4) := Lib.hid (belt HB3.out hb)
             have Ra_4 := Lib.hid (own_below Ra_3.out hb)
             clear Kd_3 ld_3 cd_0_3 cd_1_3 cd_2_3 cd_3_3 cd_4_3
             have cd_0_4 := Kd_4.out.cell 0 (v := .int .i64 ak) rfl
             have cd_1_4 := Kd_4.out.cell 1 (v := .int .i64 an) rfl
             have cd_2_4 := Kd_4.out.cell 2 (v := .string ax) rfl
             have cd_3_4 := Kd_4.out.cell 3 (v := .string ay) rfl
             have cd_4_4 := Kd_4.out.cell 4 (v := .string at_) rfl
             have ld_4 := Kd_4.out.lt
             clear Ra_3 HB3 hb)
          | (go_at_call 25
             refine (shf_any Aa n ca l ⟨ak, an, ⟨ax, ay⟩, at_⟩ x4 (rd_own Ra_4.out) HCa.out.1 HCa.out.2 HS.out HA1.out HA2.out HA3.out).mono ?_
             rw [HY.out]
             rintro e x5 ⟨rfl, hb⟩
             have Kd_5 := Lib.hid (Kd_4.out.keep hb)
             have HB5 : Hid (Below w.heap.size w x5) := Lib.hid (belt HB4.out hb)
             have Ra_5 := Lib.hid (own_below Ra_4.out hb)
             clear Kd_4 ld_4 cd_0_4 cd_1_4 cd_2_4 cd_3_4 cd_4_4
             have cd_0_5 := Kd_5.out.cell 0 (v := .int .i64 ak) rfl
             have cd_1_5 := Kd_5.out.cell 1 (v := .int .i64 an) rfl
             have cd_2_5 := Kd_5.out.cell 2 (v := .string ax) rfl
             have cd_3_5 := Kd_5.out.cell 3 (v := .string ay) rfl
             have cd_4_5 := Kd_5.out.cell 4 (v := .string at_) rfl
             have ld_5 := Kd_5.out.lt
             clear Ra_4 HB4 hb))
      clear Ra_5
      go_wp2_with fail
      refine (toBlS_any A n c l _ (H1.out.below HB5.out) HN.out).mono ?_
      rintro e x6 ⟨v, rfl, ho, hb⟩
      have Kd_6 := Lib.hid (Kd_5.out.keep hb)
      have HB6 : Hid (Below w.heap.size w x6) := Lib.hid (belt HB5.out hb)
      clear Kd_5 ld_5 cd_0_5 cd_1_5 cd_2_5 cd_3_5 cd_4_5
      have cd_0_6 := Kd_6.out.cell 0 (v := .int .i64 ak) rfl
      have cd_1_6 := Kd_6.out.cell 1 (v := .int .i64 an) rfl
      have cd_2_6 := Kd_6.out.cell 2 (v := .string ax) rfl
      have cd_3_6 := Kd_6.out.cell 3 (v := .string ay) rfl
      have cd_4_6 := Kd_6.out.cell 4 (v := .string at_) rfl
      have ld_6 := Kd_6.out.lt
      obtain ⟨Ax, cx, rfl, hc1, hc2, _⟩ := own_form ho
      have Rx_6 := Lib.hid ho
      have hbase := HB5.out.size
      have HBSx : Hid (w.heap.size ≤ x5.heap.size) := Lib.hid hbase
      clear HB5 ho hc1 hc2 hbase hb
      have HCx := Lib.hid (own_cap Rx_6.out)
      go_wp2_with fail
      refine (toac_b ⟨ak, an, ⟨ax, ay⟩, at_⟩ x6).mono ?_
      rintro e x7 ⟨rfl, hb⟩
      have Kd_7 := Lib.hid (Kd_6.out.keep hb)
      have HB7 : Hid (Below w.heap.size w x7) := Lib.hid (belt HB6.out hb)
      have Rx_7 := Lib.hid (own_below Rx_6.out hb)
      clear Kd_6 ld_6 cd_0_6 cd_1_6 cd_2_6 cd_3_6 cd_4_6
      have cd_0_7 := Kd_7.out.cell 0 (v := .int .i64 ak) rfl
      have cd_1_7 := Kd_7.out.cell 1 (v := .int .i64 an) rfl
      have cd_2_7 := Kd_7.out.cell 2 (v := .string ax) rfl
      have cd_3_7 := Kd_7.out.cell 3 (v := .string ay) rfl
      have cd_4_7 := Kd_7.out.cell 4 (v := .string at_) rfl
      have ld_7 := Kd_7.out.lt
      clear Rx_6 HB6 hb
      go_wp2_with fail
      refine (ihf_any Ax n cx l ⟨ak, an, ⟨ax, ay⟩, at_⟩ x7 (rd_own Rx_7.out) HCx.out.1 HCx.out.2 HS.out HA1.out HA2.out HA3.out).mono ?_
      rw [HY.out]
      rintro e x8 ⟨rfl, hb⟩
      have Kd_8 := Lib.hid (Kd_7.out.keep hb)
      have HB8 : Hid (Below w.heap.size w x8) := Lib.hid (belt HB7.out hb)
      have Rx_8 := Lib.hid (own_below Rx_7.out hb)
      clear Kd_7 ld_7 cd_0_7 cd_1_7 cd_2_7 cd_3_7 cd_4_7
      have cd_0_8 := Kd_8.out.cell 0 (v := .int .i64 ak) rfl
      have cd_1_8 := Kd_8.out.cell 1 (v := .int .i64 an) rfl
      have cd_2_8 := Kd_8.out.cell 2 (v := .string ax) rfl
      have cd_3_8 := Kd_8.out.cell 3 (v := .string ay) rfl
      have cd_4_8 := Kd_8.out.cell 4 (v := .string at_) rfl
      have ld_8 := Kd_8.out.lt
      clear Rx_7 HB7 hb
      go_wp2_with fail
      refine (toBlS_any A n c l _ (H1.out.below HB8.out) HN.out).mono ?_
      rintro e x9 ⟨v, rfl, ho, hb⟩
      have Kd_9 := Lib.hid (Kd_8.out.keep hb)
      have HB9 : Hid (Below w.heap.size w x9) := Lib.hid (belt HB8.out hb)
      have Rx_9 := Lib.hid (own_below Rx_8.out hb)
      clear Kd_8 ld_8 cd_0_8 cd_1_8 cd_2_8 cd_3_8 cd_4_8
      have cd_0_9 := Kd_9.out.cell 0 (v := .int .i64 ak) rfl
      have cd_1_9 := Kd_9.out.cell 1 (v := .int .i64 an) rfl
      have cd_2_9 := Kd_9.out.cell 2 (v := .string ax) rfl
      have cd_3_9 := Kd_9.out.cell 3 (v := .string ay) rfl
      have cd_4_9 := Kd_9.out.cell 4 (v := .string at_) rfl
      have ld_9 := Kd_9.out.lt
      obtain ⟨Ab, cb, rfl, hc1, hc2, _⟩ := own_form ho
      have Rb_9 := Lib.hid ho
      have hbase := HB8.out.size
      have HBSb : Hid (w.heap.size ≤ x8.heap.size) := Lib.hid hbase
      have AP_x_b := Lib.hid (own_apart Rx_8.out ho (Nat.le_refl _))
      clear Rx_8 HB8 ho hc1 hc2 hbase hb
      have HCb := Lib.hid (own_cap Rb_9.out)
      go_wp2_with fail
      refine (eqBlS_same _ _ _ _ _ _ _ (rd_own Rx_9.out) (rd_own Rb_9.out) HN.out).mono ?_
      rintro e x10 ⟨rfl, hb⟩
      have Kd_10 := Lib.hid (Kd_9.out.keep hb)
      have HB10 : Hid (Below w.heap.size w x10) := Lib.hid (belt HB9.out hb)
      have Rx_10 := Lib.hid (own_below Rx_9.out hb)
      have Rb_10 := Lib.hid (own_below Rb_9.out hb)
      clear Kd_9 ld_9 cd_0_9 cd_1_9 cd_2_9 cd_3_9 cd_4_9
      have cd_0_10 := Kd_10.out.cell 0 (v := .int .i64 ak) rfl
      have cd_1_10 := Kd_10.out.cell 1 (v := .int .i64 an) rfl
      have cd_2_10 := Kd_10.out.cell 2 (v := .string ax) rfl
      have cd_3_10 := Kd_10.out.cell 3 (v := .string ay) rfl
      have cd_4_10 := Kd_10.out.cell 4 (v := .string at_) rfl
      have ld_10 := Kd_10.out.lt
      clear Rx_9 Rb_9 HB9 hb
      go_wp2
      go_ret
      exact ⟨rfl, HB10.out⟩
    · have HDL : Hid (r < (ax.size : Int) + (ay.size : Int) + (at_.size : Int)) := Lib.hid (by omega)
      clear hdl
      go_enter Try.func8, Try.ntmps8
      go_wp2_with fail
      refine (szBlS_any _ _ _ _ _ _ (H1.out.alloc _) HX.out HS.out (by omega) (by omega)).mono ?_
      rw [HR.out]
      rintro e x1 ⟨rfl, hb⟩
      have HK := Lib.hid ((Bk.new w 52 #[.int .i64 ak, .int .i64 an, .string ax, .string ay, .string at_]).keep hb)
      have HB := Lib.hid (bela hb)
      have c0 := HK.out.cell 0 (v := .int .i64 ak) rfl
      have c1 := HK.out.cell 1 (v := .int .i64 an) rfl
      have c2 := HK.out.cell 2 (v := .string ax) rfl
      have c3 := HK.out.cell 3 (v := .string ay) rfl
      have c4 := HK.out.cell 4 (v := .string at_) rfl
      have cl := HK.out.lt
      clear hb
      go_wp2_with fail
      refine (szac_no ⟨ak, an, ⟨ax, ay⟩, at_⟩ r _ HDL.out HA.out (by omega) (by omega)).mono ?_
      rintro e x2 ⟨rfl, hb⟩
      have HB2 := Lib.hid (belt HB.out hb)
      clear hb
      go_wp2
      go_ret
      exact ⟨rfl, HB2.out⟩
  · have h0' : r < 0 := by omega
    clear hfit h0
    go_enter Try.func8, Try.ntmps8
    go_wp2_with fail
    refine (szBlS_any _ _ _ _ _ _ (H1.out.alloc _) HX.out HS.out (by omega) (by omega)).mono ?_
    rw [HR.out]
    rintro e x1 ⟨rfl, hb⟩
    have HB := Lib.hid (bela hb)
    clear hb
    go_wp2
    go_ret
    exact ⟨rfl, HB.out⟩
end Go.Proofs.Ytajfglcoigklnaa
