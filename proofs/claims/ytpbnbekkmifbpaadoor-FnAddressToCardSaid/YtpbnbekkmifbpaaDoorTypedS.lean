/-
  Types of temporaries that hold texts.
-/
import Derived.Test.YtpbnbekkmifbpaaDoorTyped
namespace Go.Proofs.YtpbnbekkmifbpaaDoor
open Go.RowKit
set_option linter.unusedVariables false

def tS (m : Nat) (v : Value) : Prop := ∃ s : ByteArray, v = .string s ∧ s.size ≤ m
def tLS (R S n m : Nat) (v : Value) (w : World) : Prop := ∃ g : Nat, v = .slice (some ⟨g, 0, none⟩) n n ∧ g ≠ R ∧ g ≠ S ∧ ∀ j, j < n → ∃ z : ByteArray, z.size ≤ m ∧ w.cell? ⟨g, j, none⟩ = some (.string z)
def tAS (R S m : Nat) (v : Value) (w : World) : Prop := ∃ (g j : Nat) (z : ByteArray), v = .pointer (some ⟨g, j, none⟩) ∧ g ≠ R ∧ g ≠ S ∧ z.size ≤ m ∧ w.cell? ⟨g, j, none⟩ = some (.string z)
theorem tLS_keep {R S n m : Nat} {v : Value} {w w' : World} (hN : Nx R S w w') (h : tLS R S n m v w) : tLS R S n m v w' := by
  obtain ⟨g, hv, h1, h2, hc⟩ := h
  exact ⟨g, hv, h1, h2, fun j hj => by obtain ⟨z, hz, hcell⟩ := hc j hj; exact ⟨z, hz, hN.cell hcell h1 h2⟩⟩
theorem tAS_keep {R S m : Nat} {v : Value} {w w' : World} (hN : Nx R S w w') (h : tAS R S m v w) : tAS R S m v w' := by
  obtain ⟨g, j, z, hv, h1, h2, hz, hcell⟩ := h
  exact ⟨g, j, z, hv, h1, h2, hz, hN.cell hcell h1 h2⟩
theorem tLS_new {R S m : Nat} {w : World} {l : List Value} {n : Nat} {T : TypeId} (hn : l.length = n) (h1 : w.heap.size ≠ R) (h2 : w.heap.size ≠ S) (hl : ∀ v ∈ l, ∃ z : ByteArray, z.size ≤ m ∧ v = .string z) :
    tLS R S n m (.slice (some ⟨w.heap.size, 0, none⟩) n n) (w.alloc (.cells l.toArray T)) := by
  refine ⟨w.heap.size, rfl, h1, h2, fun j hj => ?_⟩
  subst hn
  obtain ⟨z, hz, he⟩ := hl l[j] (List.getElem_mem hj)
  refine ⟨z, hz, ?_⟩
  have hh : (w.alloc (.cells l.toArray T)).heap[w.heap.size]? = some (.cells l.toArray T) := heap_alloc_new w _
  unfold World.cell?
  simp only [hh]
  simp [hj, he]
theorem lit_of (xs : Array Value) (n : Nat) (h : xs.size = n) : xs = ((List.range n).map fun i => xs.getD i undef).toArray := by
  subst h
  apply Array.ext
  · simp
  · intro i h1 h2
    simp [Array.getD_eq_getD_getElem?, h1]
theorem nx_below {R S : Nat} {w w' : World} (h : Below w.heap.size w w') : Nx R S w w' :=
  ⟨h.os, h.tape, h.output, h.size, fun k hk _ _ => h.block k hk⟩
theorem slot_nx {T : TypeId} {Pc : Array Value → Prop} {R S B : Nat} {w w' : World} (h : SlotIs T Pc w B) (hN : Nx R S w w') (h1 : B ≠ R) (h2 : B ≠ S) : SlotIs T Pc w' B := by
  have hl := jslot_lt h
  obtain ⟨cs, hb, r⟩ := h
  exact ⟨cs, (hN.block B hl h1 h2).trans hb, r⟩
theorem grown_nx {R S : Nat} {a w w' : World} (h : a.grownBy w (some R)) (hN : Nx R S w w') (hS : a.heap.size ≤ S) : a.grownBy w' (some R) :=
  ⟨hN.os.trans h.os, hN.tape.trans h.tape, hN.output.trans h.output, Nat.le_trans h.size hN.size, fun k hk hne =>
    (hN.block k (Nat.lt_of_lt_of_le hk h.size) (fun e => hne (by rw [e])) (by omega)).trans (h.block k hk hne)⟩
end Go.Proofs.YtpbnbekkmifbpaaDoor
