/-
  The contracts of FirstSentence.
-/
import Derived.Test.YtfhapcipipjahaaText
namespace Go.Proofs.Ytfhapcipipjahaa
open Go.ChangeShapes Go.WideShapes Go.ChangeAt Go.RowKit Go.Joins
set_option linter.unusedVariables false

theorem tvB_size {s : ByteArray} (h : tvB s = true) : s.size ≤ 80 := by
  simp only [tvB, Bool.and_eq_true, decide_eq_true_eq] at h
  exact h.1
theorem ret_str {a b : ByteArray} (h : a = b) : Ending.returned (.string a) = .returned (.string b) := by rw [h]
def gb (s : ByteArray) (k : Nat) : Int := ((s.data.toList.getD k 0).toNat : Int)
theorem gb_eq {s : ByteArray} {k : Nat} (h : k < s.size) : gb s k = (s[k].toNat : Int) := by
  unfold gb
  have h' : k < s.data.toList.length := by simpa using h
  rw [List.getD_eq_getElem?_getD, List.getElem?_eq_getElem h']
  rfl
/-- A sign that ends a sentence at k, and a space behind it. -/
def stopAt (s : ByteArray) (k : Nat) : Prop := (gb s k = 46 ∨ gb s k = 33 ∨ gb s k = 63) ∧ gb s (k + 1) = 32
open Classical in
noncomputable def fsFrom (s : ByteArray) : Nat → Nat → ByteArray
  | 0, _ => s
  | f + 1, k => if k + 1 < s.size then (if stopAt s k then s.extract 0 (k + 1) else fsFrom s f (k + 1)) else s
noncomputable def fs (s : ByteArray) : ByteArray := fsFrom s s.size 0
def fsRel (s : ByteArray) (k : Nat) : Prop := fs s = fsFrom s (s.size - k) k
theorem fs_0 (s : ByteArray) : fsRel s 0 := rfl
theorem fs_hit {s : ByteArray} {k : Nat} (hr : fsRel s k) (h : k + 1 < s.size) (h1 : (s[k].toNat : Int) = 46 ∨ (s[k].toNat : Int) = 33 ∨ (s[k].toNat : Int) = 63) (h2 : (s[k + 1].toNat : Int) = 32) : s.extract 0 (k + 1) = fs s := by
  unfold fsRel at hr
  obtain ⟨f, hf⟩ : ∃ f, s.size - k = f + 1 := ⟨s.size - k - 1, by omega⟩
  have hst : stopAt s k := ⟨by rw [gb_eq (by omega)]; exact h1, by rw [gb_eq h]; exact h2⟩
  rw [hr, hf, fsFrom, if_pos h, if_pos hst]
theorem fs_next {s : ByteArray} {k : Nat} (hr : fsRel s k) (h : k + 1 < s.size) (hn : ¬ stopAt s k) : fsRel s (k + 1) := by
  unfold fsRel at hr ⊢
  obtain ⟨f, hf⟩ : ∃ f, s.size - k = f + 1 := ⟨s.size - k - 1, by omega⟩
  rw [hr, hf, fsFrom, if_pos h, if_neg hn]
  congr 1; omega
theorem fs_miss1 {s : ByteArray} {k : Nat} (hr : fsRel s k) (h : k + 1 < s.size) (h1 : ¬ (s[k].toNat : Int) = 46) (h2 : ¬ (s[k].toNat : Int) = 33) (h3 : ¬ (s[k].toNat : Int) = 63) : fsRel s (k + 1) :=
  fs_next hr h fun hst => by
    have := hst.1
    rw [gb_eq (by omega)] at this
    omega
theorem fs_miss2 {s : ByteArray} {k : Nat} (hr : fsRel s k) (h : k + 1 < s.size) (h2 : ((s[k + 1].toNat : Int) == 32) = false) : fsRel s (k + 1) :=
  fs_next hr h fun hst => by
    have := hst.2
    rw [gb_eq h] at this
    simp [this] at h2
theorem fs_end {s : ByteArray} {k : Nat} (hr : fsRel s k) (h : ¬ k + 1 < s.size) : s = fs s := by
  unfold fsRel at hr
  rw [hr]
  cases s.size - k <;> simp [fsFrom, h]

theorem ifs_no (s : ByteArray) (w : World) (hs : s.size ≤ maxLen) (hv : tvB s = false) :
    Calls Try.prog 6 #[.string s] w fun e w' => e = .returned (.string ⟨#[]⟩) ∧ w = w' := by
  have HS := Lib.hid hs; clear hs
  go_enter Try.func6, Try.ntmps6
  go_wp2_with (first | (go_at_call 10; refine (itv_any _ _ HS.out).mono ?_; rintro e w1 ⟨rfl, rfl⟩))
  go_ret
  exact ⟨rfl, rfl⟩
theorem ifs_yes (s : ByteArray) (w : World) (hs : s.size ≤ maxLen) (hv : tvB s = true) :
    Calls Try.prog 6 #[.string s] w fun e w' => e = .returned (.string (fs s)) ∧ w = w' := by
  have HS := Lib.hid hs
  clear hs
  have hs := tvB_size hv
  go_enter Try.func6, Try.ntmps6
  go_wp2_with (first | (go_at_call 10; refine (itv_any _ _ HS.out).mono ?_; rintro e w1 ⟨rfl, rfl⟩))
  go_loop [3] (fun i => ∃ k : Nat, k ≤ s.size ∧ i = .int .i64 k ∧ fsRel s k) (fun i => s.size - (intOf i).toNat)
  case atStart => exact ⟨0, by omega, rfl, fs_0 s⟩
  case round =>
    obtain ⟨k, hk, rfl, hr⟩ := hrel
    by_cases hlt : k + 1 < s.size
    · have h0 : k < s.size := by omega
      go_wp2
      all_goals first
        | (go_round
           case rel => exact ⟨k + 1, by omega, by go_num, by first | exact fs_miss2 hr hlt (by assumption) | exact fs_miss1 hr hlt (by assumption) (by assumption) (by assumption)⟩
           case measure => simp [intOf]; omega)
        | (go_ret; exact ⟨ret_str (fs_hit hr hlt (by omega) (eq_of_beq (by assumption))), rfl⟩)
    · go_wp2
      go_ret
      exact ⟨ret_str (fs_end hr hlt), rfl⟩
theorem sfs_no (s : ByteArray) (w : World) (hs : s.size ≤ maxLen) (hv : tvB s = false) :
    Calls Try.prog 5 #[.string s] w fun e w' => e = .returned (.string ⟨#[]⟩) ∧ w = w' := by
  have HS := Lib.hid hs; clear hs
  go_enter Try.func5, Try.ntmps5
  go_wp2_with (first | (go_at_call 9; refine (stv_any _ _ HS.out).mono ?_; rintro e w1 ⟨rfl, rfl⟩))
  go_ret
  exact ⟨rfl, rfl⟩
theorem sfs_yes (s : ByteArray) (w : World) (hs : s.size ≤ maxLen) (hv : tvB s = true) :
    Calls Try.prog 5 #[.string s] w fun e w' => e = .returned (.string (fs s)) ∧ w = w' := by
  have HS := Lib.hid hs
  clear hs
  have hs := tvB_size hv
  go_enter Try.func5, Try.ntmps5
  go_wp2_with (first | (go_at_call 9; refine (stv_any _ _ HS.out).mono ?_; rintro e w1 ⟨rfl, rfl⟩))
  go_loop [3] (fun i => ∃ k : Nat, k ≤ s.size ∧ i = .int .i64 k ∧ fsRel s k) (fun i => s.size - (intOf i).toNat)
  case atStart => exact ⟨0, by omega, rfl, fs_0 s⟩
  case round =>
    obtain ⟨k, hk, rfl, hr⟩ := hrel
    by_cases hlt : k + 1 < s.size
    · have h0 : k < s.size := by omega
      go_wp2
      all_goals first
        | (go_round
           case rel => exact ⟨k + 1, by omega, by go_num, by first | exact fs_miss2 hr hlt (by assumption) | exact fs_miss1 hr hlt (by assumption) (by assumption) (by assumption)⟩
           case measure => simp [intOf]; omega)
        | (go_ret; exact ⟨ret_str (fs_hit hr hlt (by omega) (eq_of_beq (by assumption))), rfl⟩)
    · go_wp2
      go_ret
      exact ⟨ret_str (fs_end hr hlt), rfl⟩

theorem exFirstSentence (s : ByteArray) (hs : s.size ≤ maxLen) (w : World) :
    Calls Try.prog 3 #[.string s] w fun e w' => e = .returned (.bool true) ∧ Below w.heap.size w w' := by
  cases hl : decide ((1048576 : Int) < (s.size : Int))
  · have HS := Lib.hid hs; clear hs
    cases hv : tvB s
    · have HV := Lib.hid hv; clear hv
      go_enter Try.func3, Try.ntmps3
      go_wp2_with (first | (go_at_call 6; refine (ifs_no _ _ HS.out HV.out).mono ?_; rintro e w1 ⟨rfl, rfl⟩) | (go_at_call 5; refine (sfs_no _ _ HS.out HV.out).mono ?_; rintro e w1 ⟨rfl, rfl⟩))
      go_ret
      exact ⟨rfl, by go_grown⟩
    · have HV := Lib.hid hv; clear hv
      generalize hf : fs s = f
      have HF := Lib.hid hf; clear hf
      go_enter Try.func3, Try.ntmps3
      go_wp2_with (first | (go_at_call 6; refine (ifs_yes _ _ HS.out HV.out).mono ?_; rw [HF.out]; rintro e w1 ⟨rfl, rfl⟩) | (go_at_call 5; refine (sfs_yes _ _ HS.out HV.out).mono ?_; rw [HF.out]; rintro e w1 ⟨rfl, rfl⟩))
      go_ret
      exact ⟨rfl, by go_grown⟩
  · go_enter Try.func3, Try.ntmps3
    go_wp2
    go_ret
    exact ⟨rfl, by go_grown⟩
end Go.Proofs.Ytfhapcipipjahaa
