/-
  The drawing of digests.
-/
import Derived.Test.YtgbbobpakjlddaaDrawKept
namespace Go.Proofs.Ytgbbobpakjlddaa
open Go.ChangeShapes Go.WideShapes Go.ChangeAt Go.RowKit Go.Joins
set_option linter.unusedVariables false
variable {L : Nat}

set_option maxHeartbeats 1000000 in
theorem l20dg_any (w : World) (R q : Nat) (h : Rdr w L R q) (hq : q ≤ 1000) :
    Calls Try.prog 38 #[.pointer (some ⟨R, 0, none⟩)] w fun e w' => ∃ a : Int, e = .returned (.int .i64 a) ∧ (-1 ≤ a ∧ a ≤ 999983) ∧ w.grownBy w' (some R) ∧ Rdr w' L R (q + 2) := by
  have H := Lib.hid h; clear h
  have hR := rdr_lt H.out
  go_enter Try.func38, Try.ntmps38
  go_wp2_with fail
  refine (pick_any _ _ q _ H.out (by omega)).mono ?_
  rintro e w1 ⟨k1, rfl, hk1, hg, hr⟩
  have G1 := Lib.hid hg; have H1 := Lib.hid hr; clear hr hg
  have hR1 := rdr_lt H1.out
  have hn1 : ¬ w1.heap.size = R := by omega
  have hn2 : ¬ w1.heap.size + 1 = R := by omega
  go_wp2_with fail
  refine (pick_any _ _ (q + 1) _ (rdr_alloc (rdr_alloc H1.out _) _) (by omega)).mono ?_
  rintro e w2 ⟨k2, rfl, hk2, hg, hr⟩
  have G2 := Lib.hid (grown_trans' G1.out (grown_trans' (World.grownBy_alloc _ _ _) (grown_trans' (World.grownBy_alloc _ _ _) hg))); have H2 := Lib.hid hr; clear hr
  obtain ⟨hc, hf, hz⟩ := gfacts hg
  have hx : ∃ v : Nat, v ≤ 3 ∧ w2.cell? ⟨w1.heap.size + 1, k2, none⟩ = some (.int .i64 v) := by
    have : k2 = 0 ∨ k2 = 1 ∨ k2 = 2 ∨ k2 = 3 ∨ k2 = 4 ∨ k2 = 5 ∨ k2 = 6 ∨ k2 = 7 := by omega
    rw [hc _ _ (by simp) hn2]
    rcases this with rfl | rfl | rfl | rfl | rfl | rfl | rfl | rfl
    · exact ⟨0, by omega, by simp [go_sem]⟩
    · exact ⟨0, by omega, by simp [go_sem]⟩
    · exact ⟨0, by omega, by simp [go_sem]⟩
    · exact ⟨0, by omega, by simp [go_sem]⟩
    · exact ⟨0, by omega, by simp [go_sem]⟩
    · exact ⟨1, by omega, by simp [go_sem]⟩
    · exact ⟨2, by omega, by simp [go_sem]⟩
    · exact ⟨3, by omega, by simp [go_sem]⟩
  obtain ⟨v, hv, hx⟩ := hx
  have hy : ∃ u : Int, (-1 ≤ u ∧ u ≤ 999983) ∧ w2.cell? ⟨w1.heap.size, v, none⟩ = some (.int .i64 u) := by
    have : v = 0 ∨ v = 1 ∨ v = 2 ∨ v = 3 := by omega
    rw [hc _ _ (by simp; omega) hn1]
    rcases this with rfl | rfl | rfl | rfl
    · exact ⟨k1, by omega, by simp [go_sem]⟩
    · exact ⟨999982, by omega, by simp [go_sem]⟩
    · exact ⟨999983, by omega, by simp [go_sem]⟩
    · exact ⟨-1, by omega, by simp [go_sem]⟩
  obtain ⟨u, hu, hy⟩ := hy
  clear hc hf hz hg
  go_wp2
  go_ret
  exact ⟨u, rfl, hu, G2.out, H2.out⟩

def PcKp (cs : Array Value) : Prop := ∃ x y : Int, cs = #[.int .i64 x, .int .i64 y] ∧ smallKp x y
end Go.Proofs.Ytgbbobpakjlddaa
