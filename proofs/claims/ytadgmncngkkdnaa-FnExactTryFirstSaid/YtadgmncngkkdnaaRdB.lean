/-
  A slice that reads, with a bound on its block: it stands through whatever turns later blocks alone.
-/
import Derived.Test.YtadgmncngkkdnaaMem
namespace Go.Proofs.Ytadgmncngkkdnaa
open Go.ChangeShapes Go.WideShapes Go.ChangeAt Go.RowKit Go.Joins
set_option linter.unusedVariables false

def RdB (w : World) (B size : Nat) (A : Option Addr) (n : Nat) (xs : List Value) : Prop :=
  xs.length = n * size ∧ (0 < xs.length → ∃ b off : Nat, A = some ⟨b, off, none⟩ ∧ b < B ∧ ∀ j u, xs[j]? = some u → w.cell? ⟨b, off + j, none⟩ = some u)
section
variable {w w' : World} {B size n : Nat} {A : Option Addr} {xs : List Value}
theorem Rd.rdB (h : Rd w size A n xs) : RdB w w.heap.size size A n xs := h
theorem RdB.rd (h : RdB w B size A n xs) (hB : B ≤ w.heap.size) : Rd w size A n xs :=
  ⟨h.1, fun hn => by obtain ⟨b, off, hA, hb, hc⟩ := h.2 hn; exact ⟨b, off, hA, by omega, hc⟩⟩
theorem RdB.keep (h : RdB w B size A n xs) (hb : Below B w w') : RdB w' B size A n xs :=
  ⟨h.1, fun hn => by
    obtain ⟨b, off, hA, hlt, hc⟩ := h.2 hn
    exact ⟨b, off, hA, hlt, fun j u hu => (hb.cell (p := ⟨b, off + j, none⟩) hlt).trans (hc j u hu)⟩⟩
theorem RdB.grown (h : RdB w B size A n xs) {row : Option Nat} (hg : w.grownBy w' row) (hB : B ≤ w.heap.size) (hr : ∀ g, row = some g → B ≤ g) : RdB w' B size A n xs :=
  h.keep ((Below.refl B w).grown hg hB hr)
theorem RdB.own {base s m : Nat} {e : TypeId} {v : Value} {ys : List Value} (h : RdB w B size A n xs) (ho : w.ownsRow base e s v m ys) (hq : B ≤ base) (hg : w.grownBy w' v.ownBlock) (hB : B ≤ w.heap.size) : RdB w' B size A n xs :=
  h.grown hg hB (fun g hg => by have := (ho.lt g hg).1; omega)
end
end Go.Proofs.Ytadgmncngkkdnaa
