/-
  The walk of FnExactMentionsIn.
-/
import Derived.Test.YtpbnbekkmifbpaaDoorMnS
import Derived.Test.YtpbnbekkmifbpaaDoorListFHandle
import Derived.Test.YtpbnbekkmifbpaaDoorMarkHandle
namespace Go.Proofs.YtpbnbekkmifbpaaDoor
open Go.ChangeShapes Go.WideShapes Go.ChangeAt Go.RowKit Go.Joins
set_option linter.unusedVariables false

theorem tvB_size {s : ByteArray} (h : tvB s = true) : s.size ≤ 80 := by
  simp only [tvB, Bool.and_eq_true, decide_eq_true_eq] at h; exact h.1
theorem mnB_small (s : ByteArray) : (mnB s).length ≤ 81 := by
  cases h : tvB s
  · rw [mnB, wdB_no h]; simp
  · have := mnB_len s; have := tvB_size h; omega
set_option maxRecDepth 100000 in
set_option maxHeartbeats 8000000 in
theorem exMentionsIn (s : ByteArray) (hs : s.size ≤ maxLen) (w : World) :
    Calls Tryd.prog 4 #[.string s] w fun e w' => e = .returned (.bool true) ∧ Below w.heap.size w w' := by
  unfold maxLen at hs
  by_cases h0 : s.size ≤ 1048576
  · have HI := Lib.hid (fun w => imn_any s w h0); have HSP := Lib.hid (fun w => smn_any s w h0)
    have hm := mnB_small s
    generalize hb : mnB s = R at *
    generalize hrn : R.length = m at *
    have HM : Hid (m ≤ 1048576) := Lib.hid (by omega)
    clear hb hrn
    go_enter Tryd.func4, Tryd.ntmps4
    go_wp2_with fail
    refine (HSP.out _).mono ?_
    rintro e x1 ⟨v, rfl, ho, hb⟩
    have HB1 : Hid (Below w.heap.size w x1) := Lib.hid (belt (Below.refl w.heap.size w) hb)
    obtain ⟨As, cs, rfl, hc1, hc2, _⟩ := own_form ho
    have Rs_1 := Lib.hid ho
    have hbase := (Below.refl w.heap.size w).size
    have HBSs : Hid (w.heap.size ≤ w.heap.size) := Lib.hid hbase
    clear ho hc1 hc2 hbase hb
    go_wp2_with fail
    refine (HI.out _).mono ?_
    rintro e x2 ⟨v, rfl, ho, hb⟩
    have HB2 : Hid (Below w.heap.size w x2) := Lib.hid (belt HB1.out hb)
    have Rs_2 := Lib.hid (own_below Rs_1.out hb)
    obtain ⟨Ag, cg, rfl, hc1, hc2, _⟩ := own_form ho
    have Rg_2 := Lib.hid ho
    have hbase := HB1.out.size
    have HBSg : Hid (w.heap.size ≤ x1.heap.size) := Lib.hid hbase
    have AP_s_g := Lib.hid (own_apart Rs_1.out ho (Nat.le_refl _))
    clear Rs_1 HB1 ho hc1 hc2 hbase hb
    go_wp2_with fail
    refine (eqHaS_same _ _ _ _ _ _ _ (rd_own Rg_2.out) (rd_own Rs_2.out) HM.out).mono ?_
    rintro e x3 ⟨rfl, hb⟩
    have HB3 : Hid (Below w.heap.size w x3) := Lib.hid (belt HB2.out hb)
    have Rs_3 := Lib.hid (own_below Rs_2.out hb)
    have Rg_3 := Lib.hid (own_below Rg_2.out hb)
    clear Rs_2 Rg_2 HB2 hb
    go_wp2_with fail
    refine (markHa_any _ _ _ _ _ _ _ Rg_3.out HM.out (by omega) (by omega)).mono ?_
    rintro e x4 ⟨rfl, hown, hg⟩
    have HB4 : Hid (Below w.heap.size w x4) := Lib.hid (below_grown HB3.out hg Rg_3.out (by exact HBSg.out) HB3.out.size)
    have Rs_4 := Lib.hid (Rs_3.out.kept hg AP_s_g.out.1)
    have Rg_4 := Lib.hid hown
    clear Rs_3 Rg_3 HB3 hown hg
    go_wp2_with fail
    refine (heldHa_any _ _ _ _ _ (rd_own Rg_4.out) HM.out (by omega) (by omega)).mono ?_
    rintro e x5 ⟨rfl, hb⟩
    have HB5 : Hid (Below w.heap.size w x5) := Lib.hid (belt HB4.out hb)
    have Rs_5 := Lib.hid (own_below Rs_4.out hb)
    have Rg_5 := Lib.hid (own_below Rg_4.out hb)
    clear Rs_4 Rg_4 HB4 hb
    go_wp2_with fail
    refine (HI.out _).mono ?_
    rintro e x6 ⟨v, rfl, ho, hb⟩
    have HB6 : Hid (Below w.heap.size w x6) := Lib.hid (belt HB5.out hb)
    have Rs_6 := Lib.hid (own_below Rs_5.out hb)
    have Rg_6 := Lib.hid (own_below Rg_5.out hb)
    obtain ⟨Ah, ch, rfl, hc1, hc2, _⟩ := own_form ho
    have Rh_6 := Lib.hid ho
    have hbase := HB5.out.size
    have HBSh : Hid (w.heap.size ≤ x5.heap.size) := Lib.hid hbase
    have AP_s_h := Lib.hid (own_apart Rs_5.out ho (Nat.le_refl _))
    have AP_g_h := Lib.hid (own_apart Rg_5.out ho (Nat.le_refl _))
    clear Rs_5 Rg_5 HB5 ho hc1 hc2 hbase hb
    go_wp2_with fail
    refine (eqHaS_same _ _ _ _ _ _ _ (rd_own Rh_6.out) (rd_own Rs_6.out) HM.out).mono ?_
    rintro e x7 ⟨rfl, hb⟩
    have HB7 : Hid (Below w.heap.size w x7) := Lib.hid (belt HB6.out hb)
    have Rs_7 := Lib.hid (own_below Rs_6.out hb)
    have Rg_7 := Lib.hid (own_below Rg_6.out hb)
    have Rh_7 := Lib.hid (own_below Rh_6.out hb)
    clear Rs_6 Rg_6 Rh_6 HB6 hb
    clear Rh_7
    clear Rs_7
    go_wp2_with fail
    refine (heldHa_any _ _ _ _ _ (rd_own Rg_7.out) HM.out (by omega) (by omega)).mono ?_
    rintro e x8 ⟨rfl, hb⟩
    have HB8 : Hid (Below w.heap.size w x8) := Lib.hid (belt HB7.out hb)
    have Rg_8 := Lib.hid (own_below Rg_7.out hb)
    clear Rg_7 HB7 hb
    go_wp2
    go_ret
    exact ⟨rfl, HB8.out⟩
  · go_enter Tryd.func4, Tryd.ntmps4
    go_wp2
    go_ret
    exact ⟨rfl, Below.refl _ _⟩
end Go.Proofs.YtpbnbekkmifbpaaDoor
