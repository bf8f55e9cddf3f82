/-
  The contracts of digitValue and WordValid of the program; 'alive'.
-/
import Derived.Test.YtpbnbekkmifbpaaDoorBase
namespace Go.Proofs.YtpbnbekkmifbpaaDoor
open Go.ChangeShapes Go.WideShapes Go.ChangeAt Go.RowKit Go.Joins
set_option linter.unusedVariables false

/-- The byte at k, as a number; 0 behind the end. -/
def bt (s : ByteArray) (k : Nat) : Int := ((s.data.toList.getD k 0).toNat : Int)
theorem bt_eq {s : ByteArray} {k : Nat} (h : k < s.size) : bt s k = (s[k].toNat : Int) := by
  unfold bt
  have h' : k < s.data.toList.length := by simpa using h
  rw [List.getD_eq_getElem?_getD, List.getElem?_eq_getElem h']
  rfl
/-- A small letter, or behind the first place a digit. -/
def okw (s : ByteArray) (j : Nat) : Bool := (decide (97 ≤ bt s j) && decide (bt s j ≤ 122)) || (decide (0 < j) && decide (48 ≤ bt s j) && decide (bt s j ≤ 57))
def wvB (s : ByteArray) : Bool := decide (1 ≤ s.size) && decide (s.size ≤ 8) && (List.range s.size).all (okw s)
def wvTo (s : ByteArray) (k : Nat) : Prop := ∀ j, j < k → okw s j = true
theorem wvTo_0 (s : ByteArray) : wvTo s 0 := fun j h => absurd h (by omega)
theorem wvTo_1 {s : ByteArray} (h : okw s 0 = true) : wvTo s 1 := fun j hj => by
  obtain rfl : j = 0 := by omega
  exact h
theorem wvTo_succ {s : ByteArray} {k : Nat} (h : wvTo s k) (h1 : okw s k = true) : wvTo s (k + 1) := fun j hj => by
  by_cases e : j = k
  · subst e; exact h1
  · exact h j (by omega)
theorem wvB_len {s : ByteArray} (h : s.size < 1 ∨ 8 < s.size) : false = wvB s := by
  unfold wvB
  rcases h with h | h
  · rw [decide_eq_false (by omega)]; rfl
  · rw [decide_eq_false (p := s.size ≤ 8) (by omega)]; simp
theorem wvB_bad {s : ByteArray} {k : Nat} (h : k < s.size) (h1 : okw s k = false) : false = wvB s := by
  have : (List.range s.size).all (okw s) = false := by
    rw [List.all_eq_false]
    exact ⟨k, List.mem_range.2 h, by simp [h1]⟩
  simp [wvB, this]
theorem wvB_good {s : ByteArray} (h1 : 1 ≤ s.size) (h2 : s.size ≤ 8) (h : wvTo s s.size) : true = wvB s := by
  have : (List.range s.size).all (okw s) = true := by
    rw [List.all_eq_true]
    intro j hj
    exact h j (List.mem_range.1 hj)
  simp [wvB, this, h1, h2]
theorem wvB_size {s : ByteArray} (h : wvB s = true) : 1 ≤ s.size ∧ s.size ≤ 8 := by
  simp only [wvB, Bool.and_eq_true, decide_eq_true_eq] at h
  exact h.1
theorem okw_0 {s : ByteArray} (h : 97 ≤ bt s 0) (h2 : bt s 0 ≤ 122) : okw s 0 = true := by simp [okw, h, h2]
theorem okw_0no {s : ByteArray} (h : bt s 0 < 97 ∨ 122 < bt s 0) : okw s 0 = false := by simp [okw]; omega

/-- The value of a digit. -/
def dgv (c : Int) : Int := if 48 ≤ c ∧ c ≤ 57 then c - 48 else if 97 ≤ c ∧ c ≤ 122 then c - 97 + 10 else -1
theorem dgv_a {c : Int} (h : 48 ≤ c) (h2 : c ≤ 57) : c - 48 = dgv c := by unfold dgv; rw [if_pos ⟨h, h2⟩]
theorem dgv_b {c : Int} (h : 97 ≤ c) (h2 : c ≤ 122) : c - 97 + 10 = dgv c := by unfold dgv; rw [if_neg (by omega), if_pos ⟨h, h2⟩]
theorem dgv_n {c : Int} (h : c < 48 ∨ 57 < c) (h2 : c < 97 ∨ 122 < c) : -1 = dgv c := by unfold dgv; rw [if_neg (by omega), if_neg (by omega)]
theorem dgv_ok {s : ByteArray} {k : Nat} (hk : 0 < k) (h : 0 ≤ dgv (bt s k)) : okw s k = true := by
  unfold dgv at h
  simp only [okw]
  by_cases h1 : 48 ≤ bt s k ∧ bt s k ≤ 57
  · simp [hk, h1.1, h1.2]
  · rw [if_neg h1] at h
    by_cases h2 : 97 ≤ bt s k ∧ bt s k ≤ 122
    · simp [h2.1, h2.2]
    · rw [if_neg h2] at h; omega
theorem dgv_bad {s : ByteArray} {k : Nat} (h : dgv (bt s k) < 0) : okw s k = false := by
  unfold dgv at h
  simp only [okw]
  by_cases h1 : 48 ≤ bt s k ∧ bt s k ≤ 57
  · rw [if_pos h1] at h; omega
  · rw [if_neg h1] at h
    by_cases h2 : 97 ≤ bt s k ∧ bt s k ≤ 122
    · rw [if_pos h2] at h; omega
    · simp; omega

theorem dgv_any (c : Int) (w : World) (h0 : 0 ≤ c) (h1 : c ≤ 255) :
    Calls Tryd.prog 53 #[.int .u8 c] w fun e w' => e = .returned (.int .i64 (dgv c)) ∧ w = w' := by
  by_cases h2 : 48 ≤ c ∧ c ≤ 57
  · obtain ⟨h3, h4⟩ := h2
    go_enter Tryd.func53, Tryd.ntmps53
    go_wp2
    go_ret
    exact ⟨ret_int (dgv_a h3 h4), rfl⟩
  · by_cases h3 : 97 ≤ c ∧ c ≤ 122
    · obtain ⟨h4, h5⟩ := h3
      clear h2
      go_enter Tryd.func53, Tryd.ntmps53
      go_wp2
      go_ret
      exact ⟨ret_int (dgv_b h4 h5), rfl⟩
    · have H2 := Lib.hid h2; have H3 := Lib.hid h3
      clear h2 h3
      go_enter Tryd.func53, Tryd.ntmps53
      go_wp2
      all_goals first
        | (go_ret; exact ⟨ret_int (dgv_n (by have := H2.out; omega) (by have := H3.out; omega)), rfl⟩)
        | (exfalso; have a := H2.out; have b := H3.out; omega)

theorem u8_bd (c : UInt8) : (0 : Int) ≤ (c.toNat : Int) ∧ (c.toNat : Int) ≤ 255 := by have := c.toNat_lt; omega

theorem iwv_any (s : ByteArray) (w : World) (hs : s.size ≤ maxLen) :
    Calls Tryd.prog 28 #[.string s] w fun e w' => e = .returned (.bool (wvB s)) ∧ w = w' := by
  unfold maxLen at hs
  by_cases hl : 1 ≤ s.size ∧ s.size ≤ 8
  · obtain ⟨hl1, hl2⟩ := hl
    have h00 : 0 < s.size := by omega
    by_cases h0 : 97 ≤ bt s 0 ∧ bt s 0 ≤ 122
    · have H0 := Lib.hid h0
      obtain ⟨h1, h2⟩ := h0
      rw [bt_eq h00] at h1 h2
      go_enter Tryd.func28, Tryd.ntmps28
      go_wp2_with fail
      go_loop [3] (fun i => ∃ k : Nat, 1 ≤ k ∧ k ≤ s.size ∧ i = .int .i64 k ∧ wvTo s k) (fun i => s.size - (intOf i).toNat)
      case atStart => exact ⟨1, by omega, by omega, rfl, wvTo_1 (okw_0 H0.out.1 H0.out.2)⟩
      case round =>
        obtain ⟨k, hk1, hk, rfl, ht⟩ := hrel
        by_cases hlt : k < s.size
        · have hu := u8_bd s[k]
          obtain ⟨hu1, hu2⟩ := hu
          generalize hd : dgv (s[k].toNat : Int) = d
          have HD := Lib.hid hd; clear hd
          by_cases hneg : d < 0
          · go_wp2_with (go_at_call 53; refine (dgv_any _ _ hu1 hu2).mono ?_; rw [HD.out]; rintro e w' ⟨rfl, rfl⟩)
            go_ret
            exact ⟨ret_bool (wvB_bad hlt (dgv_bad (by rw [bt_eq hlt, HD.out]; exact hneg))), rfl⟩
          · go_wp2_with (go_at_call 53; refine (dgv_any _ _ hu1 hu2).mono ?_; rw [HD.out]; rintro e w' ⟨rfl, rfl⟩)
            go_round
            case rel => exact ⟨k + 1, by omega, by omega, by go_num, wvTo_succ ht (dgv_ok (by omega) (by rw [bt_eq hlt, HD.out]; omega))⟩
            case measure => simp [intOf]; omega
        · obtain rfl : k = s.size := by omega
          go_wp2
          go_ret
          exact ⟨ret_bool (wvB_good hl1 hl2 ht), rfl⟩
    · have hb : bt s 0 < 97 ∨ 122 < bt s 0 := by omega
      have HB := Lib.hid hb
      rw [bt_eq h00] at hb
      clear h0
      rcases hb with hb | hb
      · go_enter Tryd.func28, Tryd.ntmps28
        go_wp2
        go_ret
        exact ⟨ret_bool (wvB_bad h00 (okw_0no HB.out)), rfl⟩
      · have hb' : 97 ≤ (s[0].toNat : Int) := by omega
        go_enter Tryd.func28, Tryd.ntmps28
        go_wp2
        go_ret
        exact ⟨ret_bool (wvB_bad h00 (okw_0no HB.out)), rfl⟩
  · have hb : s.size < 1 ∨ 8 < s.size := by omega
    have HL := Lib.hid hb; clear hl
    rcases hb with hb | hb
    · go_enter Tryd.func28, Tryd.ntmps28
      go_wp2
      go_ret
      exact ⟨ret_bool (wvB_len HL.out), rfl⟩
    · have hb' : 1 ≤ s.size := by omega
      go_enter Tryd.func28, Tryd.ntmps28
      go_wp2
      go_ret
      exact ⟨ret_bool (wvB_len HL.out), rfl⟩

theorem alive_any (w : World) : Calls Tryd.prog 15 #[] w fun e w' => e = .returned (.bool true) ∧ w = w' := by
  have h1 : wvB ⟨#[97, 49]⟩ = true := by decide +kernel
  have h2 : wvB ⟨#[49, 97]⟩ = false := by decide +kernel
  have H1 := Lib.hid h1; have H2 := Lib.hid h2; clear h1 h2
  go_enter Tryd.func15, Tryd.ntmps15
  go_wp2_with fail
  refine (iwv_any _ _ (by simp [maxLen]; decide)).mono ?_
  rw [H1.out]; rintro e w' ⟨rfl, rfl⟩
  go_wp2_with fail
  refine (iwv_any _ _ (by simp [maxLen]; decide)).mono ?_
  rw [H2.out]; rintro e w' ⟨rfl, rfl⟩
  go_wp2
  go_ret
  exact ⟨rfl, rfl⟩
end Go.Proofs.YtpbnbekkmifbpaaDoor
