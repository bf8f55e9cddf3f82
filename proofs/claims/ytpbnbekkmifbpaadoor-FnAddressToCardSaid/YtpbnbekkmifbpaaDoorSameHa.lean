/-
  The law's comparison of two lists of handles.
-/
import Derived.Test.YtpbnbekkmifbpaaDoorListHandle
import Derived.Deep.QuietTactic
import Derived.BigQuiet
namespace Go.Proofs.YtpbnbekkmifbpaaDoor
open Go.ChangeShapes Go.WideShapes Go.ChangeAt Go.RowKit Go.Joins
set_option linter.unusedVariables false

set_option maxRecDepth 100000 in
theorem sh_same (A B : Option Addr) (n c d : Nat) (l : List Ha) (w : World) (h1 : Rd w 2 A n (has l)) (h2 : Rd w 2 B n (has l)) (hn : n ≤ 1048576) :
    Calls Tryd.prog 11 #[.slice A n c, .slice B n d] w fun e w' => e = .returned (.bool true) ∧ Below w.heap.size w w' := by
  have H1 := Lib.hid h1; have H2 := Lib.hid h2; clear h1 h2
  go_enter Tryd.func11, Tryd.ntmps11
  go_wp2
  go_loopw [5] (fun i wr => ∃ k : Nat, k ≤ n ∧ i = .int .i64 k ∧ ∃ q, w.drewN q = wr) (fun i _ => n - (intOf i).toNat)
  case atStart => exact ⟨0, Nat.zero_le _, rfl, 0, rfl⟩
  case round =>
    obtain ⟨k, hk, rfl, q, rfl⟩ := hrel
    by_cases hlt : k < n
    · obtain ⟨b, off, z, rfl, hbl, hz, hc0, hc1⟩ := H1.out.ha hlt
      obtain ⟨b2, off2, z2, rfl, hbl2, hz2, hd0, hd1⟩ := H2.out.ha hlt
      obtain rfl : z = z2 := by rw [hz] at hz2; injection hz2
      clear hz hz2
      go_wp2
      go_quiet (fail)
      go_wp2
      go_roundw
      case rel => exact ⟨k + 1, by omega, by go_num, _, rfl⟩
      case measure => simp [intOf]; omega
    · obtain rfl : k = n := by omega
      go_wp2
      go_ret
      exact ⟨rfl, belq rfl⟩
end Go.Proofs.YtpbnbekkmifbpaaDoor
