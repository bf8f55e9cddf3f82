/-
  The drawing of buckets: the drawings of the laws.
-/
import Derived.Test.YtkdogkpdgpppkaaDrawBucket
namespace Go.Proofs.Ytkdogkpdgpppkaa
open Go.ChangeShapes Go.WideShapes Go.ChangeAt Go.RowKit Go.Joins
set_option linter.unusedVariables false

theorem zero_slotB {w W w1 : World} (hW : W = w.alloc (.cells #[.int .i64 0, .int .i64 0, .int .i64 0, .int .i64 0] 25)) (hg : Below W.heap.size W w1) :
    (w1.cell? ⟨w.heap.size, 0, none⟩ = some (.int .i64 0) ∧ w1.cell? ⟨w.heap.size, 1, none⟩ = some (.int .i64 0) ∧ w1.cell? ⟨w.heap.size, 2, none⟩ = some (.int .i64 0) ∧ w1.cell? ⟨w.heap.size, 3, none⟩ = some (.int .i64 0)) ∧
    (w1.frozen? ⟨w.heap.size, 0, none⟩ = false ∧ w1.frozen? ⟨w.heap.size, 1, none⟩ = false ∧ w1.frozen? ⟨w.heap.size, 2, none⟩ = false ∧ w1.frozen? ⟨w.heap.size, 3, none⟩ = false) := by
  subst hW
  obtain ⟨hc, hf, hz⟩ := bfacts hg
  refine ⟨⟨?_, ?_, ?_, ?_⟩, ?_, ?_, ?_, ?_⟩
  all_goals first
    | (rw [hc _ _ (by simp)]; simp [go_sem]; done)
    | (rw [hf _ _ (by simp)]; simp [go_sem]; done)
theorem dbv_any (a : Option Addr) (len cap : Nat) (zs : List Int) (w0 w : World) (h : IsCode w0 a len cap zs) (hB : Below w0.heap.size w0 w) :
    Calls Try.prog 21 #[.slice a len cap] w fun e w' => ∃ a b c d, e = .returned (bk a b c d) ∧ smallBk a b c d ∧ Below w.heap.size w w' := by
  have H := Lib.hid h; clear h
  have HB := Lib.hid hB; clear hB
  go_enter Try.func21, Try.ntmps21
  go_wp2_with fail
  refine (open_any _ _ _ _ _ _ H.out (HB.out.alloc HB.out.size _)).mono ?_
  rintro e w1 ⟨R, rfl, hb, hR, hR2, hr⟩
  have HB1 := Lib.hid hb; have HR := Lib.hid hr; clear hb hr
  go_wp2_with fail
  refine (l20bk_any _ _ 0 _ HR.out (by omega) (by omega)).mono ?_
  rintro e w2 ⟨x, y, z, t, rfl, hs, hg, hr⟩
  have HB2 := Lib.hid (below_of_grown HB1.out hR hg)
  have HS := Lib.hid hs
  clear hg hr hs
  obtain ⟨⟨s0, s1, s2, s3⟩, t0, t1, t2, t3⟩ := zero_slotB rfl HB2.out
  go_wp2
  refine bodyPost_ret (v := bk _ _ _ _) (by simp [results, Try.results21, go_sem, s0, s1, s2, s3]; exact ⟨rfl, rfl, rfl, rfl⟩) rfl ?_
  refine ⟨_, _, _, _, rfl, HS.out, ?_⟩
  exact (((((below_slot rfl HB2.out).setCell (p := ⟨w.heap.size, 0, none⟩) (Nat.le_refl _) _).setCell (p := ⟨w.heap.size, 1, none⟩) (Nat.le_refl _) _).setCell (p := ⟨w.heap.size, 2, none⟩) (Nat.le_refl _) _).setCell (p := ⟨w.heap.size, 3, none⟩) (Nat.le_refl _) _)

end Go.Proofs.Ytkdogkpdgpppkaa
