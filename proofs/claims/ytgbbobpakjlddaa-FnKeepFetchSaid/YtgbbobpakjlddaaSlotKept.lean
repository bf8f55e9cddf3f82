/-
  The result slot of what is kept.
-/
import Derived.Test.YtgbbobpakjlddaaDrawDigest
import Derived.Test.YtgbbobpakjlddaaTyped
namespace Go.Proofs.Ytgbbobpakjlddaa
open Go.ChangeShapes Go.WideShapes Go.ChangeAt Go.RowKit Go.Joins
set_option linter.unusedVariables false

def tKp (v : Value) : Prop := ∃ x y : Int, v = kp x y ∧ smallKp x y
def tN (n : Int) (v : Value) : Prop := v = .int .i64 n
abbrev SlotKp (w : World) (S : Nat) : Prop := SlotIs 25 PcKp w S
theorem slotKp_open {w : World} {S : Nat} (h : SlotKp w S) : ∃ x y : Int, smallKp x y ∧
    (w.cell? ⟨S, 0, none⟩ = some (.int .i64 x) ∧ w.cell? ⟨S, 1, none⟩ = some (.int .i64 y)) ∧
    (w.frozen? ⟨S, 0, none⟩ = false ∧ w.frozen? ⟨S, 1, none⟩ = false) := by
  obtain ⟨cs, hb, x, y, rfl, hs⟩ := h
  refine ⟨x, y, hs, ⟨?_, ?_⟩, ?_, ?_⟩ <;> simp [World.cell?, World.frozen?, hb]
theorem slotKp_new {w : World} : SlotKp (w.alloc (.cells #[.int .i64 0, .int .i64 0] 25)) w.heap.size :=
  ⟨_, heap_alloc_new w _, 0, 0, rfl, by unfold smallKp; omega⟩
theorem slotKp_store {w : World} {S : Nat} (h : SlotKp w S) {x y : Int} (hs : smallKp x y) :
    SlotKp ((w.setCell ⟨S, 0, none⟩ (.int .i64 x)).setCell ⟨S, 1, none⟩ (.int .i64 y)) S := by
  obtain ⟨cs, hb, x', y', rfl, _⟩ := h
  refine ⟨#[.int .i64 x, .int .i64 y], ?_, x, y, rfl, hs⟩
  simp [World.setCell, Array.getElem?_modify, hb]
theorem nx_store2 (R S : Nat) (w : World) (a b : Value) : Nx R S w ((w.setCell ⟨S, 0, none⟩ a).setCell ⟨S, 1, none⟩ b) :=
  (Nx.setCell R S w 0 a).trans (Nx.setCell R S _ 1 b)
end Go.Proofs.Ytgbbobpakjlddaa
