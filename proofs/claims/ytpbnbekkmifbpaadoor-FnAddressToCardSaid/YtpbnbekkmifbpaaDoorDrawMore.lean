/-
  Rows of the call's own beside the reader.
-/
import Derived.Test.YtpbnbekkmifbpaaDoorDraw
import Derived.Test.YtpbnbekkmifbpaaDoorMem
namespace Go.Proofs.YtpbnbekkmifbpaaDoor
open Go.ChangeShapes Go.WideShapes Go.ChangeAt Go.RowKit Go.Joins
set_option linter.unusedVariables false
variable {L : Nat}

theorem rdr_bk {w : World} {R q : Nat} (h : Rdr w L R q) : ∃ cs, Bk w R 67 cs := by
  obtain ⟨A, m, c, p, hb, _⟩ := h
  exact ⟨_, hb⟩
theorem own_rdr {w : World} {base size n R q : Nat} {e : TypeId} {v : Value} {xs : List Value} (ho : w.ownsRow base e size v n xs) (hr : Rdr w L R q) (hne : e ≠ 67) : some R ≠ v.ownBlock := by
  obtain ⟨cs, hb⟩ := rdr_bk hr
  exact own_bk ho hb hne
theorem rdr_grown {w w' : World} {R q : Nat} {row : Option Nat} (h : Rdr w L R q) (hg : w.grownBy w' row) (hne : some R ≠ row) (hL : ∀ k, row = some k → L ≤ k) : Rdr w' L R q := by
  have hlt := rdr_lt h
  obtain ⟨A, m, c, p, hb, hp, hm, hmc, hc, hLR, hby⟩ := h
  exact ⟨A, m, c, p, (hg.block R hlt hne).trans hb, hp, hm, hmc, hc, hLR, byts_keep hby fun b o hbL => World.cell?_of_block (hg.block b (by omega) (fun e => by have := hL b e.symm; omega))⟩
theorem own_pick {w w' : World} {base size n R q : Nat} {e : TypeId} {v : Value} {xs : List Value} (ho : w.ownsRow base e size v n xs) (hr : Rdr w L R q) (hne : e ≠ 67) (hg : w.grownBy w' (some R)) : w'.ownsRow base e size v n xs :=
  ho.kept hg (.inr (Ne.symm (own_rdr ho hr hne)))
theorem below_pick {B : Nat} {a w w' : World} {R : Nat} (h : Below B a w) (hg : w.grownBy w' (some R)) (hR : B ≤ R) (hB : B ≤ w.heap.size) : Below B a w' := h.grown hg hB (fun k hk => by injection hk with hk; omega)

end Go.Proofs.YtpbnbekkmifbpaaDoor
