/-
  The walk of FnExactDueAt.
-/
import Derived.Test.YtadgmncngkkdnaaDue
import Derived.Test.YtadgmncngkkdnaaListFDelivery
namespace Go.Proofs.Ytadgmncngkkdnaa
open Go.ChangeShapes Go.WideShapes Go.ChangeAt Go.RowKit Go.Joins
set_option linter.unusedVariables false

set_option maxRecDepth 100000 in
set_option maxHeartbeats 8000000 in
theorem exDueAt (A : Option Addr) (n c : Nat) (l : List De) (now : Int) (w : World) (h : Rd w 4 A n (des l) ∧ n ≤ maxLen ∧ ∀ z ∈ l, z.b.size ≤ maxLen) :
    Calls Try.prog 7 #[.slice A n c, .int .i64 now] w fun e w' => e = .returned (.bool true) ∧ Below w.heap.size w w' := by
  obtain ⟨h1, hx, hs⟩ := h
  have hl1 := rd_delen h1
  have H1 := Lib.hid h1; have HS := Lib.hid hs; have HX := Lib.hid hx
  generalize hr : deL l 1048576 = r
  have hfit : 0 ≤ r → n ≤ 1048576 := fun h0 => by
    rw [← hr, deL, hl1] at h0
    split at h0 <;> omega
  have HR := Lib.hid hr
  clear h1 hs hx hr hl1
  generalize hb : duR l now = y
  have HY := Lib.hid hb
  clear hb
  by_cases h0 : 0 ≤ r
  · have hn := hfit h0
    have HN := Lib.hid hn
    clear hfit
    go_enter Try.func7, Try.ntmps7
    go_wp2_with fail
    refine (szDeS_any _ _ _ _ _ _ H1.out HX.out HS.out (by omega) (by omega)).mono ?_
    rw [HR.out]
    rintro e x1 ⟨rfl, hb⟩
    have HB1 : Hid (Below w.heap.size w x1) := Lib.hid (belt (Below.refl w.heap.size w) hb)
    clear hb
    go_wp2_with fail
    refine (toDeS_any _ _ _ _ _ (H1.out.below HB1.out) HN.out).mono ?_
    rintro e x2 ⟨v, rfl, ho, hb⟩
    have HB2 : Hid (Below w.heap.size w x2) := Lib.hid (belt HB1.out hb)
    obtain ⟨Aa, ca, rfl, hc1, hc2, _⟩ := own_form ho
    have Ra_2 := Lib.hid ho
    have hbase := HB1.out.size
    have HBSa : Hid (w.heap.size ≤ x1.heap.size) := Lib.hid hbase
    clear HB1 ho hc1 hc2 hbase hb
    have HCa := Lib.hid (own_cap Ra_2.out)
    go_wp2_with fail
    refine (sdu_any _ _ _ _ _ _ (rd_own Ra_2.out) HCa.out.1 HCa.out.2 HS.out).mono ?_
    rw [HY.out]
    rintro e x3 ⟨rfl, hb⟩
    have HB3 : Hid (Below w.heap.size w x3) := Lib.hid (belt HB2.out hb)
    have Ra_3 := Lib.hid (own_below Ra_2.out hb)
    clear Ra_2 HB2 hb
    clear Ra_3
    go_wp2_with fail
    refine (toDeS_any _ _ _ _ _ (H1.out.below HB3.out) HN.out).mono ?_
    rintro e x4 ⟨v, rfl, ho, hb⟩
    have HB4 : Hid (Below w.heap.size w x4) := Lib.hid (belt HB3.out hb)
    obtain ⟨Ax, cx, rfl, hc1, hc2, _⟩ := own_form ho
    have Rx_4 := Lib.hid ho
    have hbase := HB3.out.size
    have HBSx : Hid (w.heap.size ≤ x3.heap.size) := Lib.hid hbase
    clear HB3 ho hc1 hc2 hbase hb
    have HCx := Lib.hid (own_cap Rx_4.out)
    go_wp2_with fail
    refine (idu_any _ _ _ _ _ _ (rd_own Rx_4.out) HCx.out.1 HCx.out.2 HS.out).mono ?_
    rw [HY.out]
    rintro e x5 ⟨rfl, hb⟩
    have HB5 : Hid (Below w.heap.size w x5) := Lib.hid (belt HB4.out hb)
    have Rx_5 := Lib.hid (own_below Rx_4.out hb)
    clear Rx_4 HB4 hb
    go_wp2_with fail
    refine (toDeS_any _ _ _ _ _ (H1.out.below HB5.out) HN.out).mono ?_
    rintro e x6 ⟨v, rfl, ho, hb⟩
    have HB6 : Hid (Below w.heap.size w x6) := Lib.hid (belt HB5.out hb)
    have Rx_6 := Lib.hid (own_below Rx_5.out hb)
    obtain ⟨Ab, cb, rfl, hc1, hc2, _⟩ := own_form ho
    have Rb_6 := Lib.hid ho
    have hbase := HB5.out.size
    have HBSb : Hid (w.heap.size ≤ x5.heap.size) := Lib.hid hbase
    have AP_x_b := Lib.hid (own_apart Rx_5.out ho (Nat.le_refl _))
    clear Rx_5 HB5 ho hc1 hc2 hbase hb
    have HCb := Lib.hid (own_cap Rb_6.out)
    go_wp2_with fail
    refine (eqDeS_same _ _ _ _ _ _ _ (rd_own Rx_6.out) (rd_own Rb_6.out) HN.out).mono ?_
    rintro e x7 ⟨rfl, hb⟩
    have HB7 : Hid (Below w.heap.size w x7) := Lib.hid (belt HB6.out hb)
    have Rx_7 := Lib.hid (own_below Rx_6.out hb)
    have Rb_7 := Lib.hid (own_below Rb_6.out hb)
    clear Rx_6 Rb_6 HB6 hb
    go_wp2
    go_ret
    exact ⟨rfl, HB7.out⟩
  · have h0' : r < 0 := by omega
    clear hfit h0
    go_enter Try.func7, Try.ntmps7
    go_wp2_with fail
    refine (szDeS_any _ _ _ _ _ _ H1.out HX.out HS.out (by omega) (by omega)).mono ?_
    rw [HR.out]
    rintro e x1 ⟨rfl, hb⟩
    have HB := Lib.hid hb
    clear hb
    go_wp2
    go_ret
    exact ⟨rfl, HB.out⟩
end Go.Proofs.Ytadgmncngkkdnaa
