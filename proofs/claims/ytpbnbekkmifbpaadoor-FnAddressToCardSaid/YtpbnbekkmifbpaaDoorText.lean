/-
  The contracts of TextValid.
-/
import Derived.Test.YtpbnbekkmifbpaaDoorBase
namespace Go.Proofs.YtpbnbekkmifbpaaDoor
open Go.ChangeShapes Go.WideShapes Go.ChangeAt Go.RowKit Go.Joins
set_option linter.unusedVariables false

def okc (c : UInt8) : Bool := decide (32 ≤ c.toNat) && decide (c.toNat ≤ 126)
theorem okc_yes {c : UInt8} (h : okc c = true) : 32 ≤ (c.toNat : Int) ∧ (c.toNat : Int) ≤ 126 := by
  simp [okc] at h; omega
theorem okc_no {c : UInt8} (h : okc c = false) : (c.toNat : Int) < 32 ∨ 126 < (c.toNat : Int) := by
  simp [okc] at h; omega
/-- The first k bytes are good. -/
def tvTo (s : ByteArray) (k : Nat) : Prop := ∀ j (h : j < s.size), j < k → okc s[j] = true
theorem tvTo_0 (s : ByteArray) : tvTo s 0 := fun j _ h => absurd h (by omega)
theorem tvTo_succ {s : ByteArray} {k : Nat} (h : k < s.size) (h1 : tvTo s k) (h2 : okc s[k] = true) : tvTo s (k + 1) := fun j hj hk => by
  by_cases e : j = k
  · subst e; exact h2
  · exact h1 j hj (by omega)
def tvB (s : ByteArray) : Bool := decide (s.size ≤ 80) && s.data.toList.all okc
theorem tvB_long {s : ByteArray} (h : 80 < s.size) : false = tvB s := by simp [tvB]; omega
theorem getElem_list (s : ByteArray) (k : Nat) (h : k < s.size) : s.data.toList[k]'(by simpa using h) = s[k] := rfl
theorem tvB_bad {s : ByteArray} {k : Nat} (h : k < s.size) (h2 : okc s[k] = false) : false = tvB s := by
  have : s.data.toList.all okc = false := by
    rw [List.all_eq_false]
    exact ⟨s[k], by rw [← getElem_list s k h]; exact List.getElem_mem _, by simp [h2]⟩
  simp [tvB, this]
theorem tvB_good {s : ByteArray} (h : s.size ≤ 80) (h1 : tvTo s s.size) : true = tvB s := by
  have : s.data.toList.all okc = true := by
    rw [List.all_eq_true]
    intro c hc
    obtain ⟨k, hk, rfl⟩ := List.mem_iff_getElem.1 hc
    have hk' : k < s.size := by simpa using hk
    exact h1 k hk' hk'
  simp [tvB, this, h]

theorem itv_any (s : ByteArray) (w : World) (hs : s.size ≤ maxLen) :
    Calls Tryd.prog 14 #[.string s] w fun e w' => e = .returned (.bool (tvB s)) ∧ w = w' := by
  unfold maxLen at hs
  by_cases hl : s.size ≤ 80
  · go_enter Tryd.func14, Tryd.ntmps14
    go_wp2_with fail
    go_loop [3] (fun i => ∃ k : Nat, k ≤ s.size ∧ i = .int .i64 k ∧ tvTo s k) (fun i => s.size - (intOf i).toNat)
    case atStart => exact ⟨0, by omega, rfl, tvTo_0 s⟩
    case round =>
      obtain ⟨k, hk, rfl, ht⟩ := hrel
      by_cases hlt : k < s.size
      · cases hc : okc s[k]
        · have HC := Lib.hid hc; clear hc
          have ho := okc_no HC.out
          go_wp2
          all_goals (go_ret; exact ⟨ret_bool (tvB_bad hlt HC.out), rfl⟩)
        · have HC := Lib.hid hc; clear hc
          obtain ⟨ho1, ho2⟩ := okc_yes HC.out
          go_wp2
          go_round
          case rel => exact ⟨k + 1, by omega, by go_num, tvTo_succ hlt ht HC.out⟩
          case measure => simp [intOf]; omega
      · obtain rfl : k = s.size := by omega
        go_wp2
        go_ret
        exact ⟨ret_bool (tvB_good hl ht), rfl⟩
  · go_enter Tryd.func14, Tryd.ntmps14
    go_wp2
    go_ret
    exact ⟨ret_bool (tvB_long (by omega)), rfl⟩

theorem stv_any (s : ByteArray) (w : World) (hs : s.size ≤ maxLen) :
    Calls Tryd.prog 38 #[.string s] w fun e w' => e = .returned (.bool (tvB s)) ∧ w = w' := by
  unfold maxLen at hs
  go_enter Tryd.func38, Tryd.ntmps38
  go_wp2_with fail
  go_loop [3] (fun i => ∃ k : Nat, k ≤ s.size ∧ i = .int .i64 k ∧ tvTo s k) (fun i => s.size - (intOf i).toNat)
  case atStart => exact ⟨0, by omega, rfl, tvTo_0 s⟩
  case round =>
    obtain ⟨k, hk, rfl, ht⟩ := hrel
    by_cases hlt : k < s.size
    · cases hc : okc s[k]
      · have HC := Lib.hid hc; clear hc
        have ho := okc_no HC.out
        go_wp2
        all_goals (go_ret; exact ⟨ret_bool (tvB_bad hlt HC.out), rfl⟩)
      · have HC := Lib.hid hc; clear hc
        obtain ⟨ho1, ho2⟩ := okc_yes HC.out
        go_wp2
        go_round
        case rel => exact ⟨k + 1, by omega, by go_num, tvTo_succ hlt ht HC.out⟩
        case measure => simp [intOf]; omega
    · obtain rfl : k = s.size := by omega
      by_cases hl : s.size ≤ 80
      · go_wp2
        go_ret
        exact ⟨ret_bool (by rw [← tvB_good hl ht]; simp; omega), rfl⟩
      · go_wp2
        go_ret
        exact ⟨ret_bool (by rw [← tvB_long (by omega)]; simp; omega), rfl⟩
end Go.Proofs.YtpbnbekkmifbpaaDoor
