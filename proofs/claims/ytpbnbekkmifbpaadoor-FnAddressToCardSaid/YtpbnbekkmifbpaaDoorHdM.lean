/-
  The contracts of HandleValid and HandleBefore.
-/
import Derived.Test.YtpbnbekkmifbpaaDoorHdPlain
import Derived.Test.YtpbnbekkmifbpaaDoorWordS
namespace Go.Proofs.YtpbnbekkmifbpaaDoor
open Go.ChangeShapes Go.WideShapes Go.ChangeAt Go.RowKit Go.Joins
set_option linter.unusedVariables false

theorem hd_impl (a b : ByteArray) (w : World) (ha : a.size ≤ maxLen) (hb : b.size ≤ maxLen) :
    Calls Tryd.prog 13 #[hav ⟨a, b⟩] w fun e w' => e = .returned (.bool (hdV ⟨a, b⟩)) ∧ ∃ o, w.alloc o = w' := by
  have HA := Lib.hid ha; have HB := Lib.hid hb; clear ha hb
  cases h1 : wvB a
  · go_enter Tryd.func13, Tryd.ntmps13
    go_wp2_with (go_at_call 28; refine (iwv_any _ _ HA.out).mono ?_; rw [h1]; rintro e w' ⟨rfl, rfl⟩)
    go_ret
    exact ⟨ret_bool (by simp [hdV, h1]), _, rfl⟩
  · have H1 := Lib.hid h1; clear h1
    generalize hx : wvB b = x
    have HX := Lib.hid hx
    have HY : Hid (hdV ⟨a, b⟩ = x) := Lib.hid (by simp [hdV, H1.out, hx])
    clear hx
    go_enter Tryd.func13, Tryd.ntmps13
    go_wp2_with fail
    refine (iwv_any _ _ HA.out).mono ?_
    rw [H1.out]; rintro e w' ⟨rfl, rfl⟩
    go_wp2_with fail
    refine (iwv_any _ _ HB.out).mono ?_
    rw [HX.out]; rintro e w' ⟨rfl, rfl⟩
    go_wp2_with fail
    go_ret
    exact ⟨ret_bool HY.out.symm, _, rfl⟩
theorem hd_spec (a b : ByteArray) (w : World) (ha : a.size ≤ maxLen) (hb : b.size ≤ maxLen) :
    Calls Tryd.prog 62 #[hav ⟨a, b⟩] w fun e w' => e = .returned (.bool (hdV ⟨a, b⟩)) ∧ ∃ o, w.alloc o = w' := by
  have HA := Lib.hid ha; have HB := Lib.hid hb; clear ha hb
  cases h1 : wvB a
  · go_enter Tryd.func62, Tryd.ntmps62
    go_wp2_with (go_at_call 52; refine (swv_any _ _ HA.out).mono ?_; rw [h1]; rintro e w' ⟨rfl, rfl⟩)
    go_ret
    exact ⟨ret_bool (by simp [hdV, h1]), _, rfl⟩
  · have H1 := Lib.hid h1; clear h1
    generalize hx : wvB b = x
    have HX := Lib.hid hx
    have HY : Hid (hdV ⟨a, b⟩ = x) := Lib.hid (by simp [hdV, H1.out, hx])
    clear hx
    go_enter Tryd.func62, Tryd.ntmps62
    go_wp2_with fail
    refine (swv_any _ _ HA.out).mono ?_
    rw [H1.out]; rintro e w' ⟨rfl, rfl⟩
    go_wp2_with fail
    refine (swv_any _ _ HB.out).mono ?_
    rw [HX.out]; rintro e w' ⟨rfl, rfl⟩
    go_wp2_with fail
    go_ret
    exact ⟨ret_bool HY.out.symm, _, rfl⟩
theorem hb_impl (x y : Ha) (w : World) :
    Calls Tryd.prog 65 #[hav x, hav y] w fun e w' => e = .returned (.bool (hbB x y)) ∧ ∃ o1 o2, (w.alloc o1).alloc o2 = w' := by
  cases h1 : (x.b.toList == y.b.toList)
  · have HE := Lib.hid (hbB_ne h1)
    generalize hbB x y = z at *
    go_enter Tryd.func65, Tryd.ntmps65
    go_wp2
    go_ret
    exact ⟨ret_bool HE.out.symm, _, _, rfl⟩
  · have HE := Lib.hid (hbB_eq h1)
    generalize hbB x y = z at *
    go_enter Tryd.func65, Tryd.ntmps65
    go_wp2
    go_ret
    exact ⟨ret_bool HE.out.symm, _, _, rfl⟩
theorem hbB_lt {x y : Ha} (h : Op.bytesLess x.b.toList y.b.toList = true) : hbB x y = true := by
  cases e : (x.b.toList == y.b.toList)
  · rw [hbB_ne e]; exact h
  · simp only [beq_iff_eq] at e; rw [e, bl_irr] at h; cases h
theorem hb_spec (x y : Ha) (w : World) :
    Calls Tryd.prog 66 #[hav x, hav y] w fun e w' => e = .returned (.bool (hbB x y)) ∧ ∃ o1 o2, (w.alloc o1).alloc o2 = w' := by
  cases h0 : Op.bytesLess x.b.toList y.b.toList
  · cases h1 : (x.b.toList == y.b.toList)
    · have HE := Lib.hid ((hbB_ne h1).trans h0)
      generalize hbB x y = z at *
      go_enter Tryd.func66, Tryd.ntmps66
      go_wp2
      go_ret
      exact ⟨ret_bool HE.out.symm, _, _, rfl⟩
    · have HE := Lib.hid (hbB_eq h1)
      generalize hbB x y = z at *
      go_enter Tryd.func66, Tryd.ntmps66
      go_wp2
      go_ret
      exact ⟨ret_bool HE.out.symm, _, _, rfl⟩
  · have HE := Lib.hid (hbB_lt h0)
    generalize hbB x y = z at *
    go_enter Tryd.func66, Tryd.ntmps66
    go_wp2
    go_ret
    exact ⟨ret_bool HE.out.symm, _, _, rfl⟩
end Go.Proofs.YtpbnbekkmifbpaaDoor
