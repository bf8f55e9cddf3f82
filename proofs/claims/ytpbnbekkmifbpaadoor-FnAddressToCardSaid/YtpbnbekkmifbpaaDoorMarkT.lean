/-
  The contract of markText: each number has its text.
-/
import Derived.Test.YtpbnbekkmifbpaaDoorMem
import Derived.Laws.IdiomStrings
namespace Go.Proofs.YtpbnbekkmifbpaaDoor
open Go.ChangeShapes Go.WideShapes Go.ChangeAt Go.RowKit Go.Joins
set_option linter.unusedVariables false

def dgB (j : Nat) : UInt8 := UInt8.ofNat (48 + j % 10)
theorem ret_str {a b : ByteArray} (h : a = b) : Ending.returned (.string a) = .returned (.string b) := by rw [h]
def mtGo (k : Nat) (out : ByteArray) : ByteArray := if h : k = 0 then out else mtGo (k / 10) ((⟨#[dgB k]⟩ : ByteArray) ++ out)
termination_by k
decreasing_by omega
/-- The text of a number. -/
def mtx (k : Int) : ByteArray := (⟨#[109]⟩ : ByteArray) ++ mtGo k.toNat ⟨#[]⟩
theorem mtGo_0 (out : ByteArray) : mtGo 0 out = out := by rw [mtGo]; rfl
theorem mtGo_s {k : Nat} (h : 0 < k) (out : ByteArray) : mtGo k out = mtGo (k / 10) ((⟨#[dgB k]⟩ : ByteArray) ++ out) := by rw [mtGo, dif_neg (by omega)]
theorem mtGo_size (k : Nat) : ∀ out : ByteArray, (mtGo k out).size ≤ out.size + k := by
  induction k using Nat.strongRecOn with
  | ind k ih =>
    intro out
    rcases Nat.eq_zero_or_pos k with h | h
    · subst h; rw [mtGo_0]; omega
    · rw [mtGo_s h]
      have := ih (k / 10) (by omega) ((⟨#[dgB k]⟩ : ByteArray) ++ out)
      rw [ByteArray.size_append] at this
      have e : (⟨#[dgB k]⟩ : ByteArray).size = 1 := rfl
      omega
theorem mtx_size {k : Int} (h : 0 ≤ k) (h2 : k ≤ 100000000) : (mtx k).size ≤ 100000001 := by
  unfold mtx
  rw [ByteArray.size_append]
  have := mtGo_size k.toNat ⟨#[]⟩
  have e : (⟨#[109]⟩ : ByteArray).size = 1 := rfl
  have e2 : (⟨#[]⟩ : ByteArray).size = 0 := rfl
  omega
theorem dig_nat (j : Nat) : ((dgB j).toNat : Int) = 48 + (j : Int) % 10 := by
  have : (dgB j).toNat = 48 + j % 10 := by
    unfold dgB; rw [UInt8.toNat_ofNat']; omega
  rw [this]; omega
theorem conv_dig (j : Nat) (W : World) : (convert 22 9 (.slice (some ⟨W.heap.size, 0, none⟩) 1 1)).run Tryd.prog (W.alloc (.cells #[.int .u8 (48 + (j : Int) % 10)] 5)) = .ok (.string ⟨#[dgB j]⟩) (W.alloc (.cells #[.int .u8 (48 + (j : Int) % 10)] 5)) := by
  refine run_convert_bytes_back _ 22 9 5 ⟨W.heap.size, 0, none⟩ 1 [dgB j] Tryd.underlying22 Tryd.underlying5 Tryd.underlying9 fun i hi => ?_
  obtain rfl : i = 0 := by simpa using hi
  exact new_cells W [.int .u8 (48 + (j : Int) % 10)] _ _ rfl 0 _ (by simp only [List.getElem?_cons_zero, List.getElem_cons_zero]; rw [dig_nat])

set_option maxHeartbeats 1000000 in
theorem mt_any (k : Int) (w : World) (h0 : 0 < k) (h1 : k ≤ 100000000) :
    Calls Tryd.prog 42 #[.int .i64 k] w fun e w' => e = .returned (.string (mtx k)) ∧ Below w.heap.size w w' := by
  obtain ⟨n, rfl⟩ := Int.eq_ofNat_of_zero_le (show 0 ≤ k by omega)
  generalize hr : mtx (n : Int) = r
  have HR : Hid ((⟨#[109]⟩ : ByteArray) ++ mtGo n ⟨#[]⟩ = r) := Lib.hid hr
  clear hr
  go_enter Tryd.func42, Tryd.ntmps42
  go_wp2
  go_loopw [0, 3] (fun t o wr => ∃ (j : Nat) (out : ByteArray), t = .int .i64 j ∧ o = .string out ∧ mtGo j out = mtGo n ⟨#[]⟩ ∧ out.size + j ≤ n ∧ Below w.heap.size w wr) (fun t _ _ => (intOf t).toNat)
  case atStart => exact ⟨n, _, rfl, rfl, rfl, by have e2 : (⟨#[]⟩ : ByteArray).size = 0 := rfl; omega, Below.refl _ _⟩
  case round =>
    obtain ⟨j, out, rfl, rfl, hg, hs, hb⟩ := hrel
    have HG := Lib.hid hg; have HB := Lib.hid hb
    clear hg hb
    by_cases hj : 0 < j
    · have kc := conv_dig j wr
      have hg1 := mtGo_s hj out
      have HG1 := Lib.hid hg1; clear hg1
      go_wp2
      go_roundw
      case rel => exact ⟨j / 10, _, by go_num, rfl, by rw [← HG1.out]; exact HG.out, by rw [ByteArray.size_append]; have e : (⟨#[dgB j]⟩ : ByteArray).size = 1 := rfl; omega, HB.out.alloc HB.out.size _⟩
      case measure => simp [intOf]; omega
    · obtain rfl : j = 0 := by omega
      go_wp2
      go_ret
      exact ⟨ret_str (by rw [← HR.out, ← HG.out, mtGo_0]), HB.out⟩
end Go.Proofs.YtpbnbekkmifbpaaDoor
