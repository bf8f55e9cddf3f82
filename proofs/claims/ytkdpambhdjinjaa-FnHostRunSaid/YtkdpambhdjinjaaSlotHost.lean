/-
  The slot of a host.
-/
import Derived.Test.YtkdpambhdjinjaaDrawHost
import Derived.Test.YtkdpambhdjinjaaTyped
namespace Go.Proofs.Ytkdpambhdjinjaa
open Go.ChangeShapes Go.WideShapes Go.ChangeAt Go.RowKit Go.Joins
set_option linter.unusedVariables false

def tSv (v : Value) : Prop := ∃ (s : ByteArray) (f u : Int), v = sv s f u ∧ hostSm s f u
def PcSv (cs : Array Value) : Prop := ∃ (s : ByteArray) (f u : Int), cs = #[.string s, .int .i64 f, .int .i64 u] ∧ hostSm s f u
abbrev SlotSv (w : World) (S : Nat) : Prop := SlotIs 26 PcSv w S
theorem slotSv_open {w : World} {S : Nat} (h : SlotSv w S) : ∃ (s : ByteArray) (f u : Int), hostSm s f u ∧
    (w.cell? ⟨S, 0, none⟩ = some (.string s) ∧ w.cell? ⟨S, 1, none⟩ = some (.int .i64 f) ∧ w.cell? ⟨S, 2, none⟩ = some (.int .i64 u)) ∧
    (w.frozen? ⟨S, 0, none⟩ = false ∧ w.frozen? ⟨S, 1, none⟩ = false ∧ w.frozen? ⟨S, 2, none⟩ = false) := by
  obtain ⟨cs, hb, s, f, u, rfl, hs⟩ := h
  refine ⟨s, f, u, hs, ⟨?_, ?_, ?_⟩, ?_, ?_, ?_⟩ <;> simp [World.cell?, World.frozen?, hb]
theorem slotSv_new {w : World} : SlotSv (w.alloc (.cells #[.string ⟨#[]⟩, .int .i64 0, .int .i64 0] 26)) w.heap.size :=
  ⟨_, heap_alloc_new w _, ⟨#[]⟩, 0, 0, rfl, by unfold hostSm; exact ⟨by decide, by omega, by omega⟩⟩
theorem slotSv_mk {w : World} {s : ByteArray} {f u : Int} (hs : hostSm s f u) : SlotSv (w.alloc (.cells #[.string s, .int .i64 f, .int .i64 u] 26)) w.heap.size :=
  ⟨_, heap_alloc_new w _, s, f, u, rfl, hs⟩
theorem slotSv_store {w : World} {S : Nat} (h : SlotSv w S) {s : ByteArray} {f u : Int} (hs : hostSm s f u) :
    SlotSv (((w.setCell ⟨S, 0, none⟩ (.string s)).setCell ⟨S, 1, none⟩ (.int .i64 f)).setCell ⟨S, 2, none⟩ (.int .i64 u)) S := by
  obtain ⟨cs, hb, s', f', u', rfl, _⟩ := h
  refine ⟨#[.string s, .int .i64 f, .int .i64 u], ?_, s, f, u, rfl, hs⟩
  simp [World.setCell, Array.getElem?_modify, hb]
theorem slotSv_f {w : World} {S : Nat} (h : SlotSv w S) {f : Int} (hf : -1 ≤ f ∧ f ≤ 21) :
    SlotSv (w.setCell ⟨S, 1, none⟩ (.int .i64 f)) S := by
  obtain ⟨cs, hb, s', f', u', rfl, h1, h2, h3⟩ := h
  refine ⟨#[.string s', .int .i64 f, .int .i64 u'], ?_, s', f, u', rfl, h1, hf, h3⟩
  simp [World.setCell, Array.getElem?_modify, hb]
theorem nx_store3 (R S : Nat) (w : World) (a b c : Value) : Nx R S w (((w.setCell ⟨S, 0, none⟩ a).setCell ⟨S, 1, none⟩ b).setCell ⟨S, 2, none⟩ c) :=
  ((Nx.setCell R S w 0 a).trans (Nx.setCell R S _ 1 b)).trans (Nx.setCell R S _ 2 c)
theorem slotSv_off {w : World} {S : Nat} (h : SlotSv w S) {g i : Nat} (hn : g ≠ S) (v : Value) : SlotSv (w.setCell ⟨g, i, none⟩ v) S := by
  obtain ⟨cs, hb, r⟩ := h
  exact ⟨cs, (Below.heap_setCell w _ v S (Ne.symm hn)).trans hb, r⟩
theorem slotSv_off3 {w : World} {S : Nat} (h : SlotSv w S) {g : Nat} (hn : g ≠ S) (a b c : Value) : SlotSv (((w.setCell ⟨g, 0, none⟩ a).setCell ⟨g, 1, none⟩ b).setCell ⟨g, 2, none⟩ c) S :=
  slotSv_off (slotSv_off (slotSv_off h hn a) hn b) hn c
theorem only_set3 {a w : World} {R g : Nat} (h : a.grownBy w (some R)) (hp : a.heap.size ≤ g) (x y z : Value) : a.grownBy (((w.setCell ⟨g, 0, none⟩ x).setCell ⟨g, 1, none⟩ y).setCell ⟨g, 2, none⟩ z) (some R) :=
  only_setCell (only_setCell (only_setCell h hp x) hp y) hp z
theorem rdr_set3 {L : Nat} {w : World} {R q g : Nat} (h : Rdr w L R q) (hp : R < g) (x y z : Value) : Rdr (((w.setCell ⟨g, 0, none⟩ x).setCell ⟨g, 1, none⟩ y).setCell ⟨g, 2, none⟩ z) L R q :=
  rdr_setCell (rdr_setCell (rdr_setCell h hp x) hp y) hp z
theorem lit_of (xs : Array Value) (n : Nat) (h : xs.size = n) : xs = ((List.range n).map fun i => xs.getD i undef).toArray := by
  subst h
  apply Array.ext
  · simp
  · intro i h1 h2
    simp [Array.getD_eq_getD_getElem?, h1]
theorem nx_below {R S : Nat} {w w' : World} (h : Below w.heap.size w w') : Nx R S w w' :=
  ⟨h.os, h.tape, h.output, h.size, fun k hk _ _ => h.block k hk⟩
theorem slot_nx {T : TypeId} {Pc : Array Value → Prop} {R S B : Nat} {w w' : World} (h : SlotIs T Pc w B) (hN : Nx R S w w') (h1 : B ≠ R) (h2 : B ≠ S) : SlotIs T Pc w' B := by
  have hl := jslot_lt h
  obtain ⟨cs, hb, r⟩ := h
  exact ⟨cs, (hN.block B hl h1 h2).trans hb, r⟩
theorem grown_nx {R S : Nat} {a w w' : World} (h : a.grownBy w (some R)) (hN : Nx R S w w') (hS : a.heap.size ≤ S) : a.grownBy w' (some R) :=
  ⟨hN.os.trans h.os, hN.tape.trans h.tape, hN.output.trans h.output, Nat.le_trans h.size hN.size, fun k hk hne =>
    (hN.block k (Nat.lt_of_lt_of_le hk h.size) (fun e => hne (by rw [e])) (by omega)).trans (h.block k hk hne)⟩
end Go.Proofs.Ytkdpambhdjinjaa
