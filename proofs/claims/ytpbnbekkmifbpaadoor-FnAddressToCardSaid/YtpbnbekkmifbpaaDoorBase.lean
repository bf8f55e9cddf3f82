/-
  Small words and lemmas for the proofs of this seat; the contracts of 'within' and 'l1In'.
-/
import Derived.Test.YtpbnbekkmifbpaaDoorRows
import Derived.WalkKit
import Derived.ProofKit
import Derived.OpenShut
import Derived.ShutString
import Derived.ChangeOld
import Derived.Below
import Derived.WalkSpells
import Derived.WalkLawsBesides
import Derived.Outline
import Derived.Lib.Hide
import Derived.Lib.SmallJoins
import Derived.Handy
import Derived.BigQuiet
import Derived.Deep.QuietTactic
namespace Go.Proofs.YtpbnbekkmifbpaaDoor
open Go.ChangeShapes Go.WideShapes Go.ChangeAt Go.RowKit Go.Joins
set_option linter.unusedVariables false

theorem ret_bool {a b : Bool} (h : a = b) : Ending.returned (.bool a) = .returned (.bool b) := by rw [h]
theorem ret_int {k : IntKind} {a b : Int} (h : a = b) : Ending.returned (.int k a) = .returned (.int k b) := by rw [h]

/-- Behind a contract that ends in 'Below W.heap.size W w1': old cells and marks as before, the sizes. -/
theorem bfacts {W w1 : World} (hb : Below W.heap.size W w1) : (∀ b o, b < W.heap.size → w1.cell? ⟨b, o, none⟩ = W.cell? ⟨b, o, none⟩) ∧ (∀ b o, b < W.heap.size → w1.frozen? ⟨b, o, none⟩ = W.frozen? ⟨b, o, none⟩) ∧ W.heap.size ≤ w1.heap.size :=
  ⟨fun b o h => hb.cell (p := ⟨b, o, none⟩) h, fun b o h => hb.frozen (p := ⟨b, o, none⟩) h, hb.size⟩
theorem bdN {B : Nat} {a w : World} (h : Below B a w) (n : Nat) : Below B a (w.drewN n) := ⟨h.os, h.tape, h.output, h.size, h.block⟩
theorem bthen {w W w1 : World} (h0 : Below w.heap.size w W) (h : Below W.heap.size W w1) : Below w.heap.size w w1 := h0.trans (h.mono h0.size)

/-- lo ≤ n ≤ hi, as a Bool that the walk does not open. -/
def wi (n lo hi : Int) : Bool := decide (lo ≤ n) && decide (n ≤ hi)
theorem wi_iff {n lo hi : Int} : wi n lo hi = true ↔ lo ≤ n ∧ n ≤ hi := by simp [wi]
theorem wi_no {n lo hi : Int} : wi n lo hi = false ↔ (n < lo ∨ hi < n) := by
  cases h : wi n lo hi
  · simp only [true_iff]
    by_cases h1 : n < lo
    · exact .inl h1
    · refine .inr ?_
      by_cases h2 : hi < n
      · exact h2
      · rw [wi_iff.2 ⟨by omega, by omega⟩] at h; cases h
  · have := wi_iff.1 h
    simp only [Bool.true_eq_false, false_iff]
    omega


theorem l1In_any (n lo hi : Int) (w : World) :
    Calls Tryd.prog 69 #[.int .i64 n, .int .i64 lo, .int .i64 hi] w fun e w' => e = .returned (.bool (wi n lo hi)) ∧ w = w' := by
  by_cases h1 : lo ≤ n
  · by_cases h2 : n ≤ hi
    · go_enter Tryd.func69, Tryd.ntmps69
      go_wp2
      go_ret
      exact ⟨ret_bool (wi_iff.2 ⟨h1, h2⟩).symm, rfl⟩
    · go_enter Tryd.func69, Tryd.ntmps69
      go_wp2
      go_ret
      exact ⟨ret_bool (wi_no.2 (.inr (by omega))).symm, rfl⟩
  · go_enter Tryd.func69, Tryd.ntmps69
    go_wp2
    go_ret
    exact ⟨ret_bool (wi_no.2 (.inl (by omega))).symm, rfl⟩

end Go.Proofs.YtpbnbekkmifbpaaDoor
