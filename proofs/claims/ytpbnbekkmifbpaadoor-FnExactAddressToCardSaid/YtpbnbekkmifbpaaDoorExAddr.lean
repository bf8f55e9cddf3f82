/-
  The walk of FnExactAddressTo.
-/
import Derived.Test.YtpbnbekkmifbpaaDoorAdS
namespace Go.Proofs.YtpbnbekkmifbpaaDoor
open Go.ChangeShapes Go.WideShapes Go.ChangeAt Go.RowKit Go.Joins
set_option linter.unusedVariables false

set_option maxRecDepth 100000 in
set_option maxHeartbeats 8000000 in
theorem exAddressTo (s : ByteArray) (hs : s.size ≤ maxLen) (B : Option Addr) (m d : Nat) (f : List Ha) (w : World) (h' : Rd w 2 B m (has f) ∧ m ≤ maxLen ∧ ∀ z ∈ f, z.a.size ≤ maxLen ∧ z.b.size ≤ maxLen) :
    Calls Tryd.prog 6 #[.string s, .slice B m d] w fun e w' => e = .returned (.bool true) ∧ Below w.heap.size w w' := by
  unfold maxLen at hs
  obtain ⟨h2, hx2, hs2⟩ := h'
  have hl2 := rd_halen h2
  have H2 := Lib.hid h2; have HS2 := Lib.hid hs2; have HX2 := Lib.hid hx2
  generalize hr2 : haL f 1048576 = r2
  have hfit2 : 0 ≤ r2 → m ≤ 1048576 := fun h0 => by
    rw [← hr2, haL, hl2] at h0
    split at h0 <;> omega
  have HR2 := Lib.hid hr2
  clear h2 hs2 hx2 hl2 hr2
  by_cases h0 : s.size ≤ 1048576
  · by_cases h02 : 0 ≤ r2
    · have hm := hfit2 h02
      have HM := Lib.hid hm
      have HI := Lib.hid (fun A n c w h1 h2 h3 => iad_any s A n c f w h0 h1 h2 h3 HS2.out); have HSP := Lib.hid (fun A n c w h1 h2 h3 => sad_any s A n c f w h0 h1 h2 h3 HS2.out)
      clear hfit2
      generalize adS s f = T at *
      generalize adV s f = V at *
      go_enter Tryd.func6, Tryd.ntmps6
      go_wp2_with fail
      refine (szHaS_any _ _ _ _ _ _ (H2.out.below (Below.refl w.heap.size w)) HX2.out HS2.out (by omega) (by omega)).mono ?_
      rw [HR2.out]
      rintro e x1 ⟨rfl, hb⟩
      have HB1 : Hid (Below w.heap.size w x1) := Lib.hid (belt (Below.refl w.heap.size w) hb)
      clear hb
      go_wp2_with fail
      refine (toHaS_any _ _ _ _ _ (H2.out.below HB1.out) HM.out).mono ?_
      rintro e x2 ⟨v, rfl, ho, hb⟩
      have HB2 : Hid (Below w.heap.size w x2) := Lib.hid (belt HB1.out hb)
      obtain ⟨Aa, ca, rfl, hc1, hc2, _⟩ := own_form ho
      have Ra_2 := Lib.hid ho
      have hbase := HB1.out.size
      have HBSa : Hid (w.heap.size ≤ x1.heap.size) := Lib.hid hbase
      clear HB1 ho hc1 hc2 hbase hb
      have HCa := Lib.hid (own_cap Ra_2.out)
      go_wp2_with fail
      refine (HSP.out _ _ _ _ (rd_own Ra_2.out) HCa.out.1 HCa.out.2).mono ?_
      rintro e x3 ⟨rfl, hb⟩
      have HB3 : Hid (Below w.heap.size w x3) := Lib.hid (belt HB2.out hb)
      have Ra_3 := Lib.hid (own_below Ra_2.out hb)
      clear Ra_2 HB2 hb
      clear Ra_3
      go_wp2_with fail
      refine (toHaS_any _ _ _ _ _ (H2.out.below HB3.out) HM.out).mono ?_
      rintro e x4 ⟨v, rfl, ho, hb⟩
      have HB4 : Hid (Below w.heap.size w x4) := Lib.hid (belt HB3.out hb)
      obtain ⟨Ax, cx, rfl, hc1, hc2, _⟩ := own_form ho
      have Rx_4 := Lib.hid ho
      have hbase := HB3.out.size
      have HBSx : Hid (w.heap.size ≤ x3.heap.size) := Lib.hid hbase
      clear HB3 ho hc1 hc2 hbase hb
      have HCx := Lib.hid (own_cap Rx_4.out)
      go_wp2_with fail
      refine (HI.out _ _ _ _ (rd_own Rx_4.out) HCx.out.1 HCx.out.2).mono ?_
      rintro e x5 ⟨rfl, hb⟩
      have HB5 : Hid (Below w.heap.size w x5) := Lib.hid (belt HB4.out hb)
      have Rx_5 := Lib.hid (own_below Rx_4.out hb)
      clear Rx_4 HB4 hb
      go_wp2_with fail
      refine (toHaS_any _ _ _ _ _ (H2.out.below HB5.out) HM.out).mono ?_
      rintro e x6 ⟨v, rfl, ho, hb⟩
      have HB6 : Hid (Below w.heap.size w x6) := Lib.hid (belt HB5.out hb)
      have Rx_6 := Lib.hid (own_below Rx_5.out hb)
      obtain ⟨Ab, cb, rfl, hc1, hc2, _⟩ := own_form ho
      have Rb_6 := Lib.hid ho
      have hbase := HB5.out.size
      have HBSb : Hid (w.heap.size ≤ x5.heap.size) := Lib.hid hbase
      have AP_x_b := Lib.hid (own_apart Rx_5.out ho (Nat.le_refl _))
      clear Rx_5 HB5 ho hc1 hc2 hbase hb
      have HCb := Lib.hid (own_cap Rb_6.out)
      go_wp2_with fail
      refine (eqHaS_same _ _ _ _ _ _ _ (rd_own Rx_6.out) (rd_own Rb_6.out) HM.out).mono ?_
      rintro e x7 ⟨rfl, hb⟩
      have HB7 : Hid (Below w.heap.size w x7) := Lib.hid (belt HB6.out hb)
      have Rx_7 := Lib.hid (own_below Rx_6.out hb)
      have Rb_7 := Lib.hid (own_below Rb_6.out hb)
      clear Rx_6 Rb_6 HB6 hb
      go_wp2
      go_ret
      exact ⟨rfl, HB7.out⟩
    · have h0' : r2 < 0 := by omega
      clear hfit2
      go_enter Tryd.func6, Tryd.ntmps6
      go_wp2_with fail
      refine (szHaS_any _ _ _ _ _ _ H2.out HX2.out HS2.out (by omega) (by omega)).mono ?_
      rw [HR2.out]
      rintro e x2 ⟨rfl, hb⟩
      have HB2 := Lib.hid hb
      clear hb
      go_wp2
      go_ret
      exact ⟨rfl, HB2.out⟩
  · go_enter Tryd.func6, Tryd.ntmps6
    go_wp2
    go_ret
    exact ⟨rfl, Below.refl _ _⟩
end Go.Proofs.YtpbnbekkmifbpaaDoor
