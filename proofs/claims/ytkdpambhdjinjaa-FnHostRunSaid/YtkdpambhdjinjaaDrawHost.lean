/-
  The drawing of hosts.
-/
import Derived.Test.YtkdpambhdjinjaaDraw
import Derived.Test.YtkdpambhdjinjaaHost2
import Derived.Deep.RegionHeld3
namespace Go.Proofs.Ytkdpambhdjinjaa
open Go.ChangeShapes Go.WideShapes Go.ChangeAt Go.RowKit Go.Joins
set_option linter.unusedVariables false
variable {L : Nat}

def hostSm (s : ByteArray) (f u : Int) : Prop := s.size ≤ 8 ∧ (-1 ≤ f ∧ f ≤ 21) ∧ (0 ≤ u ∧ u ≤ 1000000001)

/-- The reference's step of a small host is small. -/
theorem sst_small (s : ByteArray) (f u now : Int) (good : Bool) (w : World) (h : hostSm s f u) (hn : 0 ≤ now ∧ now ≤ 1000000) :
    Calls Try.prog 20 #[sv s f u, .int .i64 now, .bool good] w fun e w' => ∃ s' f' u', e = .returned (sv s' f' u') ∧ hostSm s' f' u' ∧ Below w.heap.size w w' := by
  have hs : s.size ≤ maxLen := by have := h.1; simp only [maxLen]; omega
  cases hv : stV s f u now
  · refine (sst_no s f u now good w hs hv).mono ?_
    rintro e w' ⟨rfl, o1, o2, o3, rfl⟩
    exact ⟨_, _, _, rfl, ⟨by decide, by omega, by omega⟩, by go_grown⟩
  · have hv' := hv
    simp only [stV, Bool.and_eq_true] at hv'
    obtain ⟨h3, ⟨hf1, hf2⟩, ⟨hu1, hu2⟩, hfu⟩ := hvB_iff.1 hv'.1
    cases good
    · refine (sst_bad s f u now w hs hv).mono ?_
      rintro e w' ⟨rfl, o1, o2, o3, o4, rfl⟩
      refine ⟨_, _, _, rfl, ⟨h.1, ?_, ?_⟩, by go_grown⟩
      · simp only [stF, Bool.false_eq_true, if_false]; omega
      · simp only [stU, Bool.false_eq_true, if_false]; split <;> omega
    · refine (sst_good s f u now w hs hv).mono ?_
      rintro e w' ⟨rfl, o1, o2, o3, rfl⟩
      exact ⟨_, _, _, rfl, ⟨h.1, by simp [stF], by simp [stU]⟩, by go_grown⟩
end Go.Proofs.Ytkdpambhdjinjaa
