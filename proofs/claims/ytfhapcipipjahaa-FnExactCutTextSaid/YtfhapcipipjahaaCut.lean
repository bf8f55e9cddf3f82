/-
  The contracts of CutText.
-/
import Derived.Test.YtfhapcipipjahaaSent
namespace Go.Proofs.Ytfhapcipipjahaa
open Go.ChangeShapes Go.WideShapes Go.ChangeAt Go.RowKit Go.Joins
set_option linter.unusedVariables false

/-- The greatest place from 1 to e at which a space follows something else; 0 if there is none. -/
def ctIdx (s : ByteArray) : Nat → Nat
  | 0 => 0
  | e + 1 => if gb s (e + 1) = 32 ∧ gb s e ≠ 32 then e + 1 else ctIdx s e
def ctE (s : ByteArray) (m : Nat) : Nat := if ctIdx s (m - 2) = 0 then m - 2 else ctIdx s (m - 2)
def ctTo (s : ByteArray) (m k : Nat) : Prop := ctIdx s (m - 2) = ctIdx s k
theorem ctTo_0 (s : ByteArray) (m k : Nat) (h : k = m - 2) : ctTo s m k := by subst h; rfl
theorem ctTo_skip1 {s : ByteArray} {m e : Nat} (h : ctTo s m (e + 1)) (h1 : gb s (e + 1) ≠ 32) : ctTo s m e := by
  unfold ctTo at h ⊢; rw [h, ctIdx, if_neg (fun x => h1 x.1)]
theorem ctTo_skip2 {s : ByteArray} {m e : Nat} (h : ctTo s m (e + 1)) (h1 : gb s e = 32) : ctTo s m e := by
  unfold ctTo at h ⊢; rw [h, ctIdx, if_neg (fun x => x.2 h1)]
theorem ctTo_hit {s : ByteArray} {m e : Nat} (h : ctTo s m (e + 1)) (h1 : gb s (e + 1) = 32) (h2 : gb s e ≠ 32) : e + 1 = ctE s m := by
  unfold ctTo at h; rw [ctIdx, if_pos ⟨h1, h2⟩] at h; unfold ctE; rw [h, if_neg (by omega)]
theorem ctTo_end {s : ByteArray} {m : Nat} (h : ctTo s m 0) : m - 2 = ctE s m := by
  unfold ctTo at h; rw [ctIdx] at h; unfold ctE; rw [if_pos h]

theorem gb_ne {s : ByteArray} {k : Nat} (h : k < s.size) (h1 : ((s[k].toNat : Int) != 32) = true) : gb s k ≠ 32 := by
  rw [gb_eq h]; simpa using h1
theorem gb_ne' {s : ByteArray} {k : Nat} (h : k < s.size) (h1 : ¬ (s[k].toNat : Int) = 32) : gb s k ≠ 32 := by
  rw [gb_eq h]; exact h1
theorem gb_is {s : ByteArray} {k : Nat} (h : k < s.size) (h1 : ((s[k].toNat : Int) != 32) = false) : gb s k = 32 := by
  rw [gb_eq h]; simpa using h1
theorem gb_is' {s : ByteArray} {k : Nat} (h : k < s.size) (h1 : (s[k].toNat : Int) = 32) : gb s k = 32 := by
  rw [gb_eq h]; exact h1
theorem gb_ne2 {s : ByteArray} {k : Nat} (h : k < s.size) (h1 : ((s[k].toNat : Int) == 32) = false) : gb s k ≠ 32 := by
  rw [gb_eq h]; simpa using h1
theorem gb_is2 {s : ByteArray} {k : Nat} (h : k < s.size) (h1 : ((s[k].toNat : Int) == 32) = true) : gb s k = 32 := by
  rw [gb_eq h]; simpa using h1
def ctS (s : ByteArray) (m : Nat) : ByteArray := s.extract 0 (ctE s m) ++ ⟨#[46, 46]⟩
theorem ctS_of {s : ByteArray} {m k : Nat} (h : k = ctE s m) : s.extract 0 k ++ ⟨#[46, 46]⟩ = ctS s m := by rw [ctS, ← h]

theorem ict_yes (s : ByteArray) (m : Nat) (w : World) (hs : s.size ≤ maxLen) (hv : tvB s = true) (hm : wi m 4 80 = true) (hl : m < s.size) :
    Calls Try.prog 8 #[.string s, .int .i64 m] w fun e w' => e = .returned (.string (ctS s m)) ∧ w = w' := by
  have HS := Lib.hid hs; clear hs
  have hz := tvB_size hv
  obtain ⟨hm1, hm2⟩ := wi_iff.1 hm
  have hd : decide (s.size ≤ m) = false := by simp; omega
  go_enter Try.func8, Try.ntmps8
  go_wp2_with (first | (go_at_call 10; refine (itv_any _ _ HS.out).mono ?_; rintro e w1 ⟨rfl, rfl⟩) | (go_at_call 12; refine (within_any _ _ _ _).mono ?_; rintro e w1 ⟨rfl, rfl⟩))
  go_loop [5] (fun i => ∃ k : Nat, k ≤ m - 2 ∧ i = .int .i64 k ∧ ctTo s m k) (fun i => (intOf i).toNat)
  case atStart => exact ⟨m - 2, by omega, by rw [show ((m - 2 : Nat) : Int) = (m : Int) - 2 by omega], ctTo_0 s m _ rfl⟩
  case round =>
    obtain ⟨k, hk, rfl, ht⟩ := hrel
    by_cases hlt : 0 < k
    · obtain ⟨e, rfl⟩ : ∃ e, k = e + 1 := ⟨k - 1, by omega⟩
      have h1 : e + 1 < s.size := by omega
      have h0 : e < s.size := by omega
      go_wp2
      all_goals first
        | (go_round
           case rel => exact ⟨e, by omega, by go_num, by first | exact ctTo_skip2 ht (gb_is h0 (by assumption)) | exact ctTo_skip1 ht (gb_ne' h1 (by assumption))⟩
           case measure => simp [intOf])
        | (go_ret; exact ⟨ret_str (ctS_of (ctTo_hit ht (gb_is' h1 (by assumption)) (gb_ne h0 (by assumption)))), rfl⟩)
    · obtain rfl : k = 0 := by omega
      go_wp2
      go_ret
      exact ⟨ret_str (ctS_of (ctTo_end ht)), rfl⟩
theorem sct_yes (s : ByteArray) (m : Nat) (w : World) (hs : s.size ≤ maxLen) (hv : tvB s = true) (hm : wi m 4 80 = true) (hl : m < s.size) :
    Calls Try.prog 7 #[.string s, .int .i64 m] w fun e w' => e = .returned (.string (ctS s m)) ∧ w = w' := by
  have HS := Lib.hid hs; clear hs
  have hz := tvB_size hv
  obtain ⟨hm1, hm2⟩ := wi_iff.1 hm
  have hd : decide (s.size ≤ m) = false := by simp; omega
  go_enter Try.func7, Try.ntmps7
  go_wp2_with (first | (go_at_call 9; refine (stv_any _ _ HS.out).mono ?_; rintro e w1 ⟨rfl, rfl⟩) | (go_at_call 11; refine (l1In_any _ _ _ _).mono ?_; rintro e w1 ⟨rfl, rfl⟩))
  go_loop [5] (fun i => ∃ k : Nat, k ≤ m - 2 ∧ i = .int .i64 k ∧ ctTo s m k) (fun i => (intOf i).toNat)
  case atStart => exact ⟨m - 2, by omega, by rw [show ((m - 2 : Nat) : Int) = (m : Int) - 2 by omega], ctTo_0 s m _ rfl⟩
  case round =>
    obtain ⟨k, hk, rfl, ht⟩ := hrel
    have hst : gb s k ≠ 32 ∨ k = 0 ∨ gb s k = 32 := by
      by_cases h : gb s k = 32
      · exact .inr (.inr h)
      · exact .inl h
    by_cases hlt : 0 < k
    · obtain ⟨e, rfl⟩ : ∃ e, k = e + 1 := ⟨k - 1, by omega⟩
      have h1 : e + 1 < s.size := by omega
      have h0 : e < s.size := by omega
      go_wp2
      · go_round
        case rel => exact ⟨e, by omega, by go_num, ctTo_skip1 ht (gb_ne h1 (by assumption))⟩
        case measure => simp [intOf]
      · have hsp : gb s (e + 1) = 32 := gb_is h1 (by assumption)
        have HP := Lib.hid hsp; clear hsp
        go_loop [5] (fun i => ∃ k : Nat, k ≤ m - 2 ∧ i = .int .i64 k ∧ ctTo s m k ∧ (k = 0 ∨ gb s k = 32)) (fun i => (intOf i).toNat)
        case atStart => exact ⟨e + 1, by omega, by go_num, ht, .inr HP.out⟩
        case round =>
          obtain ⟨k2, hk2, rfl, ht2, hsp2⟩ := hrel
          have HP2 := Lib.hid hsp2; clear hsp2
          by_cases hlt2 : 0 < k2
          · obtain ⟨e2, rfl⟩ : ∃ e, k2 = e + 1 := ⟨k2 - 1, by omega⟩
            have h12 : e2 + 1 < s.size := by omega
            have h02 : e2 < s.size := by omega
            go_wp2
            all_goals first
              | (go_round
                 case rel => exact ⟨e2, by omega, by go_num, ctTo_skip2 ht2 (gb_is2 h02 (by assumption)), .inr (gb_is2 h02 (by assumption))⟩
                 case measure => simp [intOf])
              | (go_ret; exact ⟨ret_str (ctS_of (ctTo_hit ht2 (HP2.out.resolve_left (by omega)) (gb_ne2 h02 (by assumption)))), rfl⟩)
          · obtain rfl : k2 = 0 := by omega
            go_wp2
            go_ret
            exact ⟨ret_str (ctS_of (ctTo_end ht2)), rfl⟩
    · obtain rfl : k = 0 := by omega
      go_wp2
      go_loop [5] (fun i => ∃ k : Nat, k ≤ m - 2 ∧ i = .int .i64 k ∧ ctTo s m k ∧ (k = 0 ∨ gb s k = 32)) (fun i => (intOf i).toNat)
      case atStart => exact ⟨0, by omega, rfl, ht, .inl rfl⟩
      case round =>
        obtain ⟨k2, hk2, rfl, ht2, hsp2⟩ := hrel
        have HP2 := Lib.hid hsp2; clear hsp2
        by_cases hlt2 : 0 < k2
        · obtain ⟨e2, rfl⟩ : ∃ e, k2 = e + 1 := ⟨k2 - 1, by omega⟩
          have h12 : e2 + 1 < s.size := by omega
          have h02 : e2 < s.size := by omega
          go_wp2
          all_goals first
            | (go_round
               case rel => exact ⟨e2, by omega, by go_num, ctTo_skip2 ht2 (gb_is2 h02 (by assumption)), .inr (gb_is2 h02 (by assumption))⟩
               case measure => simp [intOf])
            | (go_ret; exact ⟨ret_str (ctS_of (ctTo_hit ht2 (HP2.out.resolve_left (by omega)) (gb_ne2 h02 (by assumption)))), rfl⟩)
        · obtain rfl : k2 = 0 := by omega
          go_wp2
          go_ret
          exact ⟨ret_str (ctS_of (ctTo_end ht2)), rfl⟩
theorem ict_no (s : ByteArray) (m : Int) (w : World) (hs : s.size ≤ maxLen) (hv : (tvB s && wi m 4 80) = false) :
    Calls Try.prog 8 #[.string s, .int .i64 m] w fun e w' => e = .returned (.string ⟨#[]⟩) ∧ w = w' := by
  have HS := Lib.hid hs; clear hs
  cases h1 : tvB s
  · clear hv
    go_enter Try.func8, Try.ntmps8
    go_wp2_with (first | (go_at_call 10; refine (itv_any _ _ HS.out).mono ?_; rintro e w1 ⟨rfl, rfl⟩) | (go_at_call 12; refine (within_any _ _ _ _).mono ?_; rintro e w1 ⟨rfl, rfl⟩))
    go_ret
    exact ⟨rfl, rfl⟩
  · simp only [h1, Bool.true_and] at hv
    go_enter Try.func8, Try.ntmps8
    go_wp2_with (first | (go_at_call 10; refine (itv_any _ _ HS.out).mono ?_; rintro e w1 ⟨rfl, rfl⟩) | (go_at_call 12; refine (within_any _ _ _ _).mono ?_; rintro e w1 ⟨rfl, rfl⟩))
    go_ret
    exact ⟨rfl, rfl⟩
theorem ict_all (s : ByteArray) (m : Int) (w : World) (hs : s.size ≤ maxLen) (h1 : tvB s = true) (h2 : wi m 4 80 = true) (hl : (s.size : Int) ≤ m) :
    Calls Try.prog 8 #[.string s, .int .i64 m] w fun e w' => e = .returned (.string s) ∧ w = w' := by
  have HS := Lib.hid hs; clear hs
  go_enter Try.func8, Try.ntmps8
  go_wp2_with (first | (go_at_call 10; refine (itv_any _ _ HS.out).mono ?_; rintro e w1 ⟨rfl, rfl⟩) | (go_at_call 12; refine (within_any _ _ _ _).mono ?_; rintro e w1 ⟨rfl, rfl⟩))
  go_ret
  exact ⟨rfl, rfl⟩
theorem sct_no (s : ByteArray) (m : Int) (w : World) (hs : s.size ≤ maxLen) (hv : (tvB s && wi m 4 80) = false) :
    Calls Try.prog 7 #[.string s, .int .i64 m] w fun e w' => e = .returned (.string ⟨#[]⟩) ∧ w = w' := by
  have HS := Lib.hid hs; clear hs
  cases h1 : tvB s
  · clear hv
    go_enter Try.func7, Try.ntmps7
    go_wp2_with (first | (go_at_call 9; refine (stv_any _ _ HS.out).mono ?_; rintro e w1 ⟨rfl, rfl⟩) | (go_at_call 11; refine (l1In_any _ _ _ _).mono ?_; rintro e w1 ⟨rfl, rfl⟩))
    go_ret
    exact ⟨rfl, rfl⟩
  · simp only [h1, Bool.true_and] at hv
    go_enter Try.func7, Try.ntmps7
    go_wp2_with (first | (go_at_call 9; refine (stv_any _ _ HS.out).mono ?_; rintro e w1 ⟨rfl, rfl⟩) | (go_at_call 11; refine (l1In_any _ _ _ _).mono ?_; rintro e w1 ⟨rfl, rfl⟩))
    go_ret
    exact ⟨rfl, rfl⟩
theorem sct_all (s : ByteArray) (m : Int) (w : World) (hs : s.size ≤ maxLen) (h1 : tvB s = true) (h2 : wi m 4 80 = true) (hl : (s.size : Int) ≤ m) :
    Calls Try.prog 7 #[.string s, .int .i64 m] w fun e w' => e = .returned (.string s) ∧ w = w' := by
  have HS := Lib.hid hs; clear hs
  go_enter Try.func7, Try.ntmps7
  go_wp2_with (first | (go_at_call 9; refine (stv_any _ _ HS.out).mono ?_; rintro e w1 ⟨rfl, rfl⟩) | (go_at_call 11; refine (l1In_any _ _ _ _).mono ?_; rintro e w1 ⟨rfl, rfl⟩))
  go_ret
  exact ⟨rfl, rfl⟩
theorem exCutText (s : ByteArray) (hs : s.size ≤ maxLen) (m : Int) (w : World) :
    Calls Try.prog 4 #[.string s, .int .i64 m] w fun e w' => e = .returned (.bool true) ∧ Below w.heap.size w w' := by
  cases hl : decide ((1048576 : Int) < (s.size : Int))
  · have HS := Lib.hid hs; clear hs
    cases hv : (tvB s && wi m 4 80)
    · have HV := Lib.hid hv; clear hv
      go_enter Try.func4, Try.ntmps4
      go_wp2_with (first | (go_at_call 8; refine (ict_no _ _ _ HS.out HV.out).mono ?_; rintro e w1 ⟨rfl, rfl⟩) | (go_at_call 7; refine (sct_no _ _ _ HS.out HV.out).mono ?_; rintro e w1 ⟨rfl, rfl⟩))
      go_ret
      exact ⟨rfl, by go_grown⟩
    · simp only [Bool.and_eq_true] at hv
      obtain ⟨hv, hm⟩ := hv
      by_cases hle : (s.size : Int) ≤ m
      · have HV := Lib.hid hv; clear hv
        have HM := Lib.hid hm; clear hm
        have HL := Lib.hid hle; clear hle
        go_enter Try.func4, Try.ntmps4
        go_wp2_with (first | (go_at_call 8; refine (ict_all _ _ _ HS.out HV.out HM.out HL.out).mono ?_; rintro e w1 ⟨rfl, rfl⟩) | (go_at_call 7; refine (sct_all _ _ _ HS.out HV.out HM.out HL.out).mono ?_; rintro e w1 ⟨rfl, rfl⟩))
        go_ret
        exact ⟨rfl, by go_grown⟩
      · obtain ⟨n, rfl⟩ := Int.eq_ofNat_of_zero_le (show 0 ≤ m by have := (wi_iff.1 hm).1; omega)
        have hle2 : n < s.size := by omega
        generalize hf : ctS s n = f
        have HF := Lib.hid hf; clear hf hle
        have HV := Lib.hid hv; clear hv
        have HM := Lib.hid hm; clear hm
        have HL := Lib.hid hle2; clear hle2
        go_enter Try.func4, Try.ntmps4
        go_wp2_with (first | (go_at_call 8; refine (ict_yes _ _ _ HS.out HV.out HM.out HL.out).mono ?_; rw [HF.out]; rintro e w1 ⟨rfl, rfl⟩) | (go_at_call 7; refine (sct_yes _ _ _ HS.out HV.out HM.out HL.out).mono ?_; rw [HF.out]; rintro e w1 ⟨rfl, rfl⟩))
        go_ret
        exact ⟨rfl, by go_grown⟩
  · go_enter Try.func4, Try.ntmps4
    go_wp2
    go_ret
    exact ⟨rfl, by go_grown⟩
end Go.Proofs.Ytfhapcipipjahaa
