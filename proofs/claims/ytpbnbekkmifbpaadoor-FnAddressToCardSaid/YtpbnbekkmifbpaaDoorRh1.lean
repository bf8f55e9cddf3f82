/-
  The contracts of HandleText, and of strings.Cut at one byte; plain law of ReadHandle.
-/
import Derived.Test.YtpbnbekkmifbpaaDoorLib1
import Derived.Test.YtpbnbekkmifbpaaDoorHdM
import Derived.Test.YtpbnbekkmifbpaaDoorTab
import Derived.Lib.IndexLaws
import Derived.Deep.DeepCutAuto
namespace Go.Proofs.YtpbnbekkmifbpaaDoor
open Go.ChangeShapes Go.WideShapes Go.ChangeAt Go.RowKit Go.Joins
set_option linter.unusedVariables false

/-- The text of a handle. -/
def htB (h : Ha) : ByteArray := if hdV h = true then (⟨#[64]⟩ ++ h.a ++ ⟨#[64]⟩) ++ h.b else ⟨#[]⟩
theorem htB_yes {h : Ha} (e : hdV h = true) : htB h = (⟨#[64]⟩ ++ h.a ++ ⟨#[64]⟩) ++ h.b := by rw [htB, if_pos e]
theorem htB_no {h : Ha} (e : hdV h = false) : htB h = ⟨#[]⟩ := by rw [htB, if_neg (by rw [e]; simp)]
theorem hdV_size {h : Ha} (e : hdV h = true) : h.a.size ≤ 8 ∧ h.b.size ≤ 8 := by
  simp only [hdV, Bool.and_eq_true] at e
  exact ⟨(wvB_size e.1).2, (wvB_size e.2).2⟩
theorem htB_size (h : Ha) : (htB h).size ≤ 18 := by
  cases e : hdV h
  · rw [htB_no e]; exact Nat.zero_le _
  · rw [htB_yes e]
    have := hdV_size e
    simp only [ByteArray.size_append]
    have h1 : (⟨#[64]⟩ : ByteArray).size = 1 := rfl
    omega

set_option maxHeartbeats 1000000 in
theorem ht_impl (a b : ByteArray) (w : World) (ha : a.size ≤ maxLen) (hb : b.size ≤ maxLen) :
    Calls Tryd.prog 45 #[hav ⟨a, b⟩] w fun e w' => e = .returned (.string (htB ⟨a, b⟩)) ∧ Below w.heap.size w w' := by
  have HA := Lib.hid ha; have HB := Lib.hid hb; clear ha hb
  cases hv : hdV ⟨a, b⟩
  · have HE := Lib.hid (htB_no hv)
    generalize htB ⟨a, b⟩ = R at *
    go_enter Tryd.func45, Tryd.ntmps45
    go_wp2_with fail
    refine (hd_impl a b _ HA.out HB.out).mono ?_
    rw [hv]
    rintro e w' ⟨rfl, o, rfl⟩
    go_wp2_with fail
    go_ret
    exact ⟨ret_st HE.out.symm, bel2 rfl⟩
  · have HE := Lib.hid (htB_yes hv)
    obtain ⟨s1, s2⟩ := hdV_size hv
    simp only at s1 s2
    generalize htB ⟨a, b⟩ = R at *
    go_enter Tryd.func45, Tryd.ntmps45
    go_wp2_with fail
    refine (hd_impl a b _ HA.out HB.out).mono ?_
    rw [hv]
    rintro e w' ⟨rfl, o, rfl⟩
    go_wp2
    go_ret
    exact ⟨ret_st HE.out.symm, by first | exact bel2 rfl | exact belt (bel2 rfl) (Below.refl _ _) | go_grown⟩
set_option maxHeartbeats 1000000 in
theorem ht_spec (a b : ByteArray) (w : World) (ha : a.size ≤ maxLen) (hb : b.size ≤ maxLen) :
    Calls Tryd.prog 47 #[hav ⟨a, b⟩] w fun e w' => e = .returned (.string (htB ⟨a, b⟩)) ∧ Below w.heap.size w w' := by
  have HA := Lib.hid ha; have HB := Lib.hid hb; clear ha hb
  cases hv : hdV ⟨a, b⟩
  · have HE := Lib.hid (htB_no hv)
    generalize htB ⟨a, b⟩ = R at *
    go_enter Tryd.func47, Tryd.ntmps47
    go_wp2_with fail
    refine (hd_spec a b _ HA.out HB.out).mono ?_
    rw [hv]
    rintro e w' ⟨rfl, o, rfl⟩
    go_wp2_with fail
    go_ret
    exact ⟨ret_st HE.out.symm, bel2 rfl⟩
  · have HE := Lib.hid (htB_yes hv)
    obtain ⟨s1, s2⟩ := hdV_size hv
    simp only at s1 s2
    generalize htB ⟨a, b⟩ = R at *
    go_enter Tryd.func47, Tryd.ntmps47
    go_wp2_with fail
    refine (hd_spec a b _ HA.out HB.out).mono ?_
    rw [hv]
    rintro e w' ⟨rfl, o, rfl⟩
    go_wp2
    go_ret
    exact ⟨ret_st HE.out.symm, by first | exact bel2 rfl | exact belt (bel2 rfl) (Below.refl _ _) | go_grown⟩

/-- Where '@' stands first, or -1. -/
theorem ix_room {l : List UInt8} {c : UInt8} {i : Nat} (h : Lib.indexByte l c = i) : i < l.length := get_lt (Lib.indexByte_some h).1
theorem scut_miss (x : ByteArray) (w : World) (h : Lib.indexByte x.data.toList 64 = -1) :
    Calls Tryd.prog 60 #[.string x, .string ⟨#[64]⟩] w fun e w' => e = .returned (.tuple #[.string x, .string ⟨#[]⟩, .bool false]) ∧ Below w.heap.size w w' := by
  go_enter Tryd.func60, Tryd.ntmps60
  go_wp2_with (first | (go_at_call 84; refine (six_any _ _ _).mono ?_; rw [h]; rintro e w' ⟨rfl, rfl⟩) | go_in)
  go_ret3
  exact ⟨rfl, Below.refl _ _⟩
set_option maxHeartbeats 1000000 in
theorem scut_hit (x : ByteArray) (i : Nat) (w : World) (hx : x.size ≤ maxLen) (h : Lib.indexByte x.data.toList 64 = i) :
    Calls Tryd.prog 60 #[.string x, .string ⟨#[64]⟩] w fun e w' => e = .returned (.tuple #[.string (x.extract 0 i), .string (x.extract (i + 1) x.size), .bool true]) ∧ Below w.heap.size w w' := by
  have hr := ix_room h
  rw [size_list] at hr
  unfold maxLen at hx
  have c1 : (0 : Int) ≤ ↑i := by omega
  have c2 : (↑i : Int) ≤ ↑x.size := by omega
  have c3 : (0 : Int) ≤ ↑i + 1 := by omega
  have c4 : (↑i + 1 : Int) ≤ ↑x.size := by omega
  go_enter Tryd.func60, Tryd.ntmps60
  go_wp2_with (first | (go_at_call 84; refine (six_any _ _ _).mono ?_; rw [h]; rintro e w' ⟨rfl, rfl⟩) | go_in)
  go_region
  go_wp2
  go_ret3
  exact ⟨rfl, by go_grown⟩
end Go.Proofs.YtpbnbekkmifbpaaDoor
