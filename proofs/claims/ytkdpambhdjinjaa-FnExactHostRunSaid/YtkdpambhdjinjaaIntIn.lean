/-
  Slices of numbers and of truths that came in.
-/
import Derived.Test.YtkdpambhdjinjaaIntS
import Derived.Test.YtkdpambhdjinjaaBoolS
import Derived.OpenShut
import Derived.Deep.Grids
namespace Go.Proofs.Ytkdpambhdjinjaa
open Go.ChangeShapes Go.WideShapes Go.ChangeAt Go.RowKit Go.Joins
set_option linter.unusedVariables false

theorem ints_in {H : Type} {enc : TypeId × Value → H} {W : World} {a : Option Addr} {n c : Nat} {d : DataW H} {p : List MemPlace}
    (h : DataW.Trod enc Try.prog W 0 (fun _ => true) true 42 (.slice a n c) d p) : ∃ zs : List Int, Rd W 1 a n (iv zs) ∧ n ≤ maxLen := by
  obtain ⟨fuel, hf⟩ := h
  rcases Go.ChangeShapes.open_ints Try.underlying42 Try.underlying3 (by kernel_rfl) hf with ⟨hcs, _⟩ | ⟨x, l, c', zs, hcs, _, hl, hm, hz, _, hcell, hwz⟩
  · simp [Value.cells] at hcs
    obtain ⟨rfl, rfl, rfl⟩ := hcs
    exact ⟨[], Rd.none_, by simp⟩
  · simp [Value.cells] at hcs
    obtain ⟨rfl, rfl, rfl⟩ := hcs
    simp at hz
    refine ⟨zs.take n, rd_in (by simp [iv]; omega) fun i u hu => ?_, by omega⟩
    have hi : i < n := by
      have := (List.getElem?_eq_some_iff.1 hu).1
      simp [iv] at this
      omega
    rw [hcell i (by omega), ← hu]
    simp [iv, List.getElem?_take, hi, show i < zs.length by omega]
theorem bools_in {H : Type} {enc : TypeId × Value → H} {W : World} {a : Option Addr} {n c : Nat} {d : DataW H} {p : List MemPlace}
    (h : DataW.Trod enc Try.prog W 0 (fun _ => true) true 43 (.slice a n c) d p) : ∃ zs : List Bool, Rd W 1 a n (bvs zs) ∧ n ≤ maxLen := by
  obtain ⟨fuel, hf⟩ := h
  rcases Go.Deep.open_bools Try.underlying43 Try.underlying4 (by kernel_rfl) hf with ⟨hcs, _⟩ | ⟨x, l, c', B, hcs, _, hl, hm, _, hcell⟩
  · simp [Value.cells] at hcs
    obtain ⟨rfl, rfl, rfl⟩ := hcs
    exact ⟨[], Rd.none_, by simp⟩
  · simp [Value.cells] at hcs
    obtain ⟨rfl, rfl, rfl⟩ := hcs
    refine ⟨(List.range n).map B, rd_in (by simp [bvs]) fun i u hu => ?_, by omega⟩
    have hi : i < n := by
      have := (List.getElem?_eq_some_iff.1 hu).1
      simpa [bvs] using this
    rw [hcell i (by omega), ← hu]
    simp [bvs, hi]
end Go.Proofs.Ytkdpambhdjinjaa
