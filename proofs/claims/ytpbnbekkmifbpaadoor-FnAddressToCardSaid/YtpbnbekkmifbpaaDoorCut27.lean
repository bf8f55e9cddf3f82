/-
  The contract of l27Cut: a word without the signs at its end.
-/
import Derived.Test.YtpbnbekkmifbpaaDoorBase
namespace Go.Proofs.YtpbnbekkmifbpaaDoor
open Go.ChangeShapes Go.WideShapes Go.ChangeAt Go.RowKit Go.Joins
set_option linter.unusedVariables false

/-- One of the signs . , ! ? : -/
def sgB (c : UInt8) : Bool := ((c.toNat : Int) == 46) || ((c.toNat : Int) == 44) || ((c.toNat : Int) == 33) || ((c.toNat : Int) == 63) || ((c.toNat : Int) == 58)
def cutN (s : ByteArray) : Nat → Nat
  | 0 => 0
  | k + 1 => if sgB (s.data.toList.getD k 0) = true then cutN s k else k + 1
def ctB (s : ByteArray) : ByteArray := s.extract 0 (cutN s s.size)
theorem cutN_le (s : ByteArray) : ∀ k, cutN s k ≤ k
  | 0 => Nat.le_refl _
  | k + 1 => by
    unfold cutN; split
    · exact Nat.le_succ_of_le (cutN_le s k)
    · exact Nat.le_refl _
theorem getD_at (s : ByteArray) (k : Nat) (h : k < s.size) : s.data.toList.getD k 0 = s[k] := by
  have h' : k < s.data.toList.length := by simpa using h
  rw [List.getD_eq_getElem?_getD, List.getElem?_eq_getElem h']
  rfl
theorem cutN_yes {s : ByteArray} {k : Nat} (h : k < s.size) (hs : sgB s[k] = true) : cutN s (k + 1) = cutN s k := by
  unfold cutN; rw [getD_at s k h, if_pos hs]; cases k <;> rfl
theorem cutN_no {s : ByteArray} {k : Nat} (h : k < s.size) (hs : sgB s[k] = false) : cutN s (k + 1) = k + 1 := by
  rw [cutN, getD_at s k h, if_neg (by rw [hs]; simp)]
theorem ext_ext (s : ByteArray) (k m : Nat) (h : m ≤ k) : (s.extract 0 k).extract 0 m = s.extract 0 m := by
  apply ByteArray.ext
  simp [ByteArray.data_extract, Nat.min_eq_left h]
theorem ext_all (s : ByteArray) : s.extract 0 s.size = s := by
  apply ByteArray.ext
  simp [ByteArray.data_extract]
theorem ext_size (s : ByteArray) (k : Nat) (h : k ≤ s.size) : (s.extract 0 k).size = k := by
  simp [ByteArray.size_extract]; omega
theorem ext_get (s : ByteArray) (k j : Nat) (h : k ≤ s.size) (hj : j < k) (hj' : j < (s.extract 0 k).size) : (s.extract 0 k)[j] = s[j]'(by omega) := by
  rw [ByteArray.getElem_extract]; simp
theorem ret_st {a b : ByteArray} (h : a = b) : Ending.returned (.string a) = .returned (.string b) := by rw [h]

theorem sg_of {c : UInt8} (h : (c.toNat : Int) = 46 ∨ (c.toNat : Int) = 44 ∨ (c.toNat : Int) = 33 ∨ (c.toNat : Int) = 63 ∨ (c.toNat : Int) = 58) : sgB c = true := by
  simp only [sgB, Bool.or_eq_true, beq_iff_eq]; omega
theorem sg_no {c : UInt8} (h : (((((c.toNat : Int) != 46) = true ∧ ((c.toNat : Int) != 44) = true) ∧ ((c.toNat : Int) != 33) = true) ∧ ((c.toNat : Int) != 63) = true) ∧ ((c.toNat : Int) != 58) = true) : sgB c = false := by
  simp only [bne_iff_ne, ne_eq] at h
  simp only [sgB, Bool.or_eq_false_iff, beq_eq_false_iff_ne, ne_eq]; omega
theorem sg_yes {c : UInt8} (h : (((((c.toNat : Int) != 46) = false ∨ ((c.toNat : Int) != 44) = false) ∨ ((c.toNat : Int) != 33) = false) ∨ ((c.toNat : Int) != 63) = false) ∨ ((c.toNat : Int) != 58) = false) : sgB c = true := by
  simp only [bne_eq_false_iff_eq] at h
  exact sg_of (by omega)

theorem cut_any (s : ByteArray) (w : World) (hs : s.size ≤ maxLen) :
    Calls Tryd.prog 40 #[.string s] w fun e w' => e = .returned (.string (ctB s)) ∧ w = w' := by
  have HS := Lib.hid hs
  unfold maxLen at hs
  go_enter Tryd.func40, Tryd.ntmps40
  go_wp2
  go_loop [0] (fun v => ∃ k : Nat, k ≤ s.size ∧ v = .string (s.extract 0 k) ∧ cutN s k = cutN s s.size) (fun v => match v with | .string x => x.size | _ => 0)
  case atStart => exact ⟨s.size, Nat.le_refl _, by rw [ext_all], rfl⟩
  case round =>
    obtain ⟨k, hk, rfl, hc⟩ := hrel
    have hxs := ext_size s k hk
    cases k with
    | zero =>
      have hx : s.extract 0 0 = ⟨#[]⟩ := by apply ByteArray.ext; simp [ByteArray.data_extract]
      have HC : Hid (ctB s = ⟨#[]⟩) := Lib.hid (by rw [ctB, ← hc]; exact hx)
      clear hc hxs
      rw [hx]
      go_wp2
      go_ret
      exact ⟨ret_st HC.out.symm, rfl⟩
    | succ k =>
      have hne : s.extract 0 (k + 1) ≠ ⟨#[]⟩ := fun e => by rw [e] at hxs; have h0 : 0 = k + 1 := hxs; omega
      have hk1 : k < s.size := by omega
      have hne2 : (s.extract 0 (k + 1)).toList.isEmpty = false := by
        have hl : (s.extract 0 (k + 1)).toList.length = k + 1 := by rw [ByteArray.toList_eq]; simpa using hxs
        cases hq : (s.extract 0 (k + 1)).toList with
        | nil => rw [hq] at hl; simp at hl
        | cons a b => rfl
      have HB : Hid (∀ hj : k < (s.extract 0 (k + 1)).size, (s.extract 0 (k + 1))[k]'hj = s[k]'hk1) := Lib.hid (fun hj => ext_get s (k + 1) k hk (by omega) hj)
      have HP : Hid ((s.extract 0 (k + 1)).extract 0 k = s.extract 0 k) := Lib.hid (ext_ext s (k + 1) k (by omega))
      have HR : Hid (sgB (s[k]'hk1) = false → ctB s = s.extract 0 (k + 1)) := Lib.hid (fun h => by rw [ctB, ← hc, cutN_no hk1 h])
      have HY : Hid (sgB (s[k]'hk1) = true → cutN s k = cutN s s.size) := Lib.hid (fun h => by rw [← hc, cutN_yes hk1 h])
      clear hc
      have hlt : k < (s.extract 0 (k + 1)).size := by omega
      generalize s.extract 0 (k + 1) = x at *
      go_wp2
      all_goals try
        (have hs1 : sgB x[k] = true := by first | exact sg_yes (by assumption) | exact sg_of (by omega)
         go_round
         case rel => exact ⟨k, by omega, by rw [HP.out], HY.out (by rw [← HB.out hlt]; exact hs1)⟩
         case measure => first | (show (x.extract 0 k).size < x.size; rw [ByteArray.size_extract]; omega) | (simp [ByteArray.size_extract]; omega))
      have hs0 : sgB x[k] = false := sg_no (by assumption)
      have HE := Lib.hid (HR.out (by rw [← HB.out hlt]; exact hs0))
      go_ret
      exact ⟨ret_st HE.out.symm, rfl⟩
end Go.Proofs.YtpbnbekkmifbpaaDoor
