/-
  The result slot of a drawn bucket; small facts for the drawings of two values.
-/
import Derived.Test.YtkdogkpdgpppkaaDrawBucket2
import Derived.Test.YtkdogkpdgpppkaaTyped
namespace Go.Proofs.Ytkdogkpdgpppkaa
open Go.ChangeShapes Go.WideShapes Go.ChangeAt Go.RowKit Go.Joins
set_option linter.unusedVariables false

/-- A small bucket as a value. -/
def tK (v : Value) : Prop := ∃ x y z t : Int, v = bk x y z t ∧ smallBk x y z t
def PcBk (cs : Array Value) : Prop := ∃ x y z t : Int, cs = #[.int .i64 x, .int .i64 y, .int .i64 z, .int .i64 t] ∧ smallBk x y z t
abbrev SlotBk (w : World) (S : Nat) : Prop := SlotIs 25 PcBk w S
theorem slotBk_open {w : World} {S : Nat} (h : SlotBk w S) : ∃ x y z t : Int, smallBk x y z t ∧
    (w.cell? ⟨S, 0, none⟩ = some (.int .i64 x) ∧ w.cell? ⟨S, 1, none⟩ = some (.int .i64 y) ∧ w.cell? ⟨S, 2, none⟩ = some (.int .i64 z) ∧ w.cell? ⟨S, 3, none⟩ = some (.int .i64 t)) ∧
    (w.frozen? ⟨S, 0, none⟩ = false ∧ w.frozen? ⟨S, 1, none⟩ = false ∧ w.frozen? ⟨S, 2, none⟩ = false ∧ w.frozen? ⟨S, 3, none⟩ = false) := by
  obtain ⟨cs, hb, x, y, z, t, rfl, hs⟩ := h
  refine ⟨x, y, z, t, hs, ⟨?_, ?_, ?_, ?_⟩, ?_, ?_, ?_, ?_⟩ <;> simp [World.cell?, World.frozen?, hb]
theorem slotBk_new {w : World} : SlotBk (w.alloc (.cells #[.int .i64 0, .int .i64 0, .int .i64 0, .int .i64 0] 25)) w.heap.size :=
  ⟨_, heap_alloc_new w _, 0, 0, 0, 0, rfl, by unfold smallBk; omega⟩
theorem slotBk_store {w : World} {S : Nat} (h : SlotBk w S) {x y z t : Int} (hs : smallBk x y z t) :
    SlotBk ((((w.setCell ⟨S, 0, none⟩ (.int .i64 x)).setCell ⟨S, 1, none⟩ (.int .i64 y)).setCell ⟨S, 2, none⟩ (.int .i64 z)).setCell ⟨S, 3, none⟩ (.int .i64 t)) S := by
  obtain ⟨cs, hb, x', y', z', t', rfl, _⟩ := h
  refine ⟨#[.int .i64 x, .int .i64 y, .int .i64 z, .int .i64 t], ?_, x, y, z, t, rfl, hs⟩
  simp [World.setCell, Array.getElem?_modify, hb]
theorem nx_store4 (R S : Nat) (w : World) (a b c d : Value) : Nx R S w ((((w.setCell ⟨S, 0, none⟩ a).setCell ⟨S, 1, none⟩ b).setCell ⟨S, 2, none⟩ c).setCell ⟨S, 3, none⟩ d) :=
  (((Nx.setCell R S w 0 a).trans (Nx.setCell R S _ 1 b)).trans (Nx.setCell R S _ 2 c)).trans (Nx.setCell R S _ 3 d)
end Go.Proofs.Ytkdogkpdgpppkaa
