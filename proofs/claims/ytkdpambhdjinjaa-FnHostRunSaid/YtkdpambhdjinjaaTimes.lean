/-
  The contract of timesValid.
-/
import Derived.Test.YtkdpambhdjinjaaIntS
namespace Go.Proofs.Ytkdpambhdjinjaa
open Go.ChangeShapes Go.WideShapes Go.ChangeAt Go.RowKit Go.Joins
set_option linter.unusedVariables false

def tOk (ts : List Int) (k : Nat) : Bool := wi (ts.getD k 0) 0 1000000 && (k == 0 || decide (ts.getD (k - 1) 0 ≤ ts.getD k 0))
def tvB (ts : List Int) : Bool := decide (ts.length ≤ 20) && (List.range ts.length).all (tOk ts)
def tvTo (ts : List Int) (k : Nat) : Prop := ∀ j, j < k → tOk ts j = true
theorem tvTo_0 (ts : List Int) : tvTo ts 0 := fun j h => absurd h (by omega)
theorem tvTo_succ {ts : List Int} {k : Nat} (h : tvTo ts k) (h1 : tOk ts k = true) : tvTo ts (k + 1) := fun j hj => by
  by_cases e : j = k
  · subst e; exact h1
  · exact h j (by omega)
theorem tvB_bad {ts : List Int} {k : Nat} (hk : k < ts.length) (h : tOk ts k = false) : false = tvB ts := by
  have : (List.range ts.length).all (tOk ts) = false := by
    rw [List.all_eq_false]; exact ⟨k, List.mem_range.2 hk, by simp [h]⟩
  simp [tvB, this]
theorem tvB_long {ts : List Int} (h : 20 < ts.length) : false = tvB ts := by
  unfold tvB; rw [decide_eq_false (by omega)]; rfl
theorem tvB_good {ts : List Int} (h1 : ts.length ≤ 20) (h : tvTo ts ts.length) : true = tvB ts := by
  have : (List.range ts.length).all (tOk ts) = true := by
    rw [List.all_eq_true]; intro j hj; exact h j (List.mem_range.1 hj)
  simp [tvB, this, h1]
theorem tvB_iff {ts : List Int} : tvB ts = true ↔ ts.length ≤ 20 ∧ tvTo ts ts.length := by
  simp [tvB, tvTo]
theorem getD_of {ts : List Int} {k : Nat} {z : Int} (h : ts[k]? = some z) : ts.getD k 0 = z := by simp [h]
theorem tOk_bad1 {ts : List Int} {k : Nat} {z : Int} (h : ts[k]? = some z) (hw : wi z 0 1000000 = false) : tOk ts k = false := by
  unfold tOk; rw [getD_of h, hw]; rfl
theorem tOk_0 {ts : List Int} {z : Int} (h : ts[0]? = some z) (hw : wi z 0 1000000 = true) : tOk ts 0 = true := by
  unfold tOk; rw [getD_of h, hw]; rfl
theorem tOk_s {ts : List Int} {k : Nat} {z y : Int} (h : ts[k + 1]? = some z) (hy : ts[k]? = some y) (hw : wi z 0 1000000 = true) : tOk ts (k + 1) = decide (y ≤ z) := by
  unfold tOk; rw [getD_of h, hw, Nat.add_sub_cancel, getD_of hy]; simp

theorem itv_any (A : Option Addr) (n c : Nat) (ts : List Int) (w : World) (h : Rd w 1 A n (iv ts)) (hn : n ≤ 1048576) :
    Calls Try.prog 39 #[.slice A n c] w fun e w' => e = .returned (.bool (tvB ts)) ∧ w = w' := by
  have hl := rd_ilen h
  have H := Lib.hid h; have HL := Lib.hid hl; clear h hl
  by_cases hlong : 20 < n
  · go_enter Try.func39, Try.ntmps39
    go_wp2
    go_ret
    exact ⟨ret_bool (tvB_long (by rw [HL.out]; exact hlong)), rfl⟩
  · go_enter Try.func39, Try.ntmps39
    go_wp2
    go_loop [10] (fun i => ∃ k : Nat, k ≤ n ∧ i = .int .i64 k ∧ tvTo ts k) (fun i => n - (intOf i).toNat)
    case atStart => exact ⟨0, Nat.zero_le _, rfl, tvTo_0 _⟩
    case round =>
      obtain ⟨k, hk, rfl, ht⟩ := hrel
      have HT := Lib.hid ht; clear ht
      by_cases hlt : k < n
      · obtain ⟨b, off, z, rfl, hbl, hz, hc⟩ := H.out.iv hlt
        have HZ := Lib.hid hz; clear hz
        cases hw : wi z 0 1000000
        · go_wp2_with (go_at_call 34; refine (within_any _ _ _ _).mono ?_; rintro e w' ⟨rfl, rfl⟩)
          go_ret
          exact ⟨ret_bool (tvB_bad (by rw [HL.out]; exact hlt) (tOk_bad1 HZ.out hw)), rfl⟩
        · cases k with
          | zero =>
            have hc0 : w.cell? ⟨b, off, none⟩ = some (.int .i64 z) := hc
            clear hc
            go_wp2_with (go_at_call 34; refine (within_any _ _ _ _).mono ?_; rintro e w' ⟨rfl, rfl⟩)
            go_round
            case rel => exact ⟨1, by omega, by go_num, tvTo_succ HT.out (tOk_0 HZ.out hw)⟩
            case measure => simp [intOf]; omega
          | succ k =>
            obtain ⟨b', off', y, e', hbl', hy, hc'⟩ := H.out.iv (show k < n by omega)
            injection e' with e'; injection e' with e1 e2
            subst e1; subst e2
            have HY := Lib.hid hy; clear hy
            by_cases hyz : y ≤ z
            · go_wp2_with (go_at_call 34; refine (within_any _ _ _ _).mono ?_; rintro e w' ⟨rfl, rfl⟩)
              go_round
              case rel => exact ⟨k + 1 + 1, by omega, by go_num, tvTo_succ HT.out (by rw [tOk_s HZ.out HY.out hw]; simpa using hyz)⟩
              case measure => simp [intOf]; omega
            · go_wp2_with (go_at_call 34; refine (within_any _ _ _ _).mono ?_; rintro e w' ⟨rfl, rfl⟩)
              go_ret
              exact ⟨ret_bool (tvB_bad (by rw [HL.out]; exact hlt) (by rw [tOk_s HZ.out HY.out hw]; simp; omega)), rfl⟩
      · obtain rfl : k = n := by omega
        go_wp2
        go_ret
        exact ⟨ret_bool (tvB_good (by rw [HL.out]; omega) (by rw [HL.out]; exact HT.out)), rfl⟩
end Go.Proofs.Ytkdpambhdjinjaa
