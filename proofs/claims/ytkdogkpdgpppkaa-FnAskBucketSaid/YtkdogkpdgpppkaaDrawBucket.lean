/-
  The drawing of buckets.
-/
import Derived.Test.YtkdogkpdgpppkaaDraw
import Derived.Test.YtkdogkpdgpppkaaBucket
namespace Go.Proofs.Ytkdogkpdgpppkaa
open Go.ChangeShapes Go.WideShapes Go.ChangeAt Go.RowKit Go.Joins
set_option linter.unusedVariables false
variable {L : Nat}

/-- All four are small. -/
def smallBk (a b c d : Int) : Prop := (-10 ≤ a ∧ a ≤ 2000000) ∧ (-10 ≤ b ∧ b ≤ 2000000) ∧ (-10 ≤ c ∧ c ≤ 2000000) ∧ (-10 ≤ d ∧ d ≤ 2000000)
/-- A zero bucket lies in block g of the world W. -/
theorem zero_slot {w W w1 : World} {R : Nat} (hW : W = w.alloc (.cells #[.int .i64 0, .int .i64 0, .int .i64 0, .int .i64 0] 25)) (hg : W.grownBy w1 (some R)) (hn : ¬ w.heap.size = R) :
    (w1.cell? ⟨w.heap.size, 0, none⟩ = some (.int .i64 0) ∧ w1.cell? ⟨w.heap.size, 1, none⟩ = some (.int .i64 0) ∧ w1.cell? ⟨w.heap.size, 2, none⟩ = some (.int .i64 0) ∧ w1.cell? ⟨w.heap.size, 3, none⟩ = some (.int .i64 0)) ∧
    (w1.frozen? ⟨w.heap.size, 0, none⟩ = false ∧ w1.frozen? ⟨w.heap.size, 1, none⟩ = false ∧ w1.frozen? ⟨w.heap.size, 2, none⟩ = false ∧ w1.frozen? ⟨w.heap.size, 3, none⟩ = false) := by
  subst hW
  obtain ⟨hc, hf, hz⟩ := gfacts hg
  refine ⟨⟨?_, ?_, ?_, ?_⟩, ?_, ?_, ?_, ?_⟩
  all_goals first
    | (rw [hc _ _ (by simp) hn]; simp [go_sem]; done)
    | (rw [hf _ _ (by simp) hn]; simp [go_sem]; done)

set_option maxHeartbeats 1000000 in
theorem l20bk_any (w : World) (R q : Nat) (n : Int) (h : Rdr w L R q) (hq : q ≤ 1000) (hn : n ≤ 1000000) :
    Calls Try.prog 28 #[.pointer (some ⟨R, 0, none⟩), .int .i64 n] w fun e w' => ∃ a b c d, e = .returned (bk a b c d) ∧ smallBk a b c d ∧ w.grownBy w' (some R) ∧ Rdr w' L R (q + 10) := by
  have H := Lib.hid h; clear h
  have hR := rdr_lt H.out
  have hn0 : ¬ w.heap.size = R := by omega
  go_enter Try.func28, Try.ntmps28
  go_wp2_with fail
  refine (odd_any _ _ _ _ (rdr_alloc H.out _) (by omega) hn).mono ?_
  rintro e w1 ⟨b, rfl, hb, hg, hr⟩
  have G1 := Lib.hid hg; have H1 := Lib.hid hr; clear hr hg
  cases b
  · go_wp2_with fail
    refine (pick_any _ _ (q + 1) _ H1.out (by omega)).mono ?_
    rintro e w2 ⟨k2, rfl, hk2, hg, hr⟩
    have G2 := Lib.hid (grown_trans' G1.out hg); have H2 := Lib.hid hr; clear hr hg
    go_wp2_with fail
    refine (pick_any _ _ (q + 2) _ H2.out (by omega)).mono ?_
    rintro e w3 ⟨k3, rfl, hk3, hg, hr⟩
    have G3 := Lib.hid (grown_trans' G2.out hg); have H3 := Lib.hid hr; clear hr hg
    go_wp2_with fail
    refine (pick_any _ _ (q + 3) _ H3.out (by omega)).mono ?_
    rintro e w4 ⟨k4, rfl, hk4, hg, hr⟩
    have G4 := Lib.hid (grown_trans' G3.out hg); have H4 := Lib.hid hr; clear hr hg
    go_wp2_with fail
    refine (pick_any _ _ (q + 4) _ H4.out (by omega)).mono ?_
    rintro e w5 ⟨k5, rfl, hk5, hg, hr⟩
    have G5 := Lib.hid (grown_trans' G4.out hg); have H5 := Lib.hid hr; clear hr hg
    have hR5 := rdr_lt H5.out
    have hn5 : ¬ w5.heap.size = R := by omega
    go_wp2_with fail
    refine (pick_any _ _ (q + 5) _ (rdr_alloc H5.out _) (by omega)).mono ?_
    rintro e w6 ⟨k6, rfl, hk6, hg, hr⟩
    have G6 := Lib.hid (grown_trans' G5.out (grown_trans' (World.grownBy_alloc _ _ _) hg)); have H6 := Lib.hid hr; clear hr
    obtain ⟨hc6, hf6, hz6⟩ := gfacts hg
    obtain ⟨⟨s0, s1, s2, s3⟩, t0, t1, t2, t3⟩ := zero_slot rfl G6.out hn0
    clear hg
    have hx : ∃ v : Int, (0 ≤ v ∧ v ≤ 1000000) ∧ w6.cell? ⟨w5.heap.size, k6 / 13, none⟩ = some (.int .i64 v) := by
      have hk6' : k6 / 13 = 0 ∨ k6 / 13 = 1 := by omega
      rw [hc6 _ _ (by simp) hn5]
      rcases hk6' with h | h <;> rw [h]
      · exact ⟨k5, by omega, by simp [go_sem]⟩
      · exact ⟨1000000, by omega, by simp [go_sem]⟩
    obtain ⟨v, hv, hx⟩ := hx
    clear hc6 hf6 hz6
    go_wp2
    refine bodyPost_ret (v := bk _ _ _ _) (by simp [results, Try.results28, go_sem, s0, s1, s2, s3]; exact ⟨rfl, rfl, rfl, rfl⟩) rfl ?_
    refine ⟨_, _, _, _, rfl, ?_, ?_, ?_⟩
    · unfold smallBk; omega
    · repeat (refine only_setCell ?_ (Nat.le_refl _) _)
      exact grown_after_alloc G6.out
    · refine rdr_more (q := q + 5 + 1) ?_ (by omega)
      repeat (refine rdr_setCell ?_ hR _)
      exact H6.out
  · go_wp2_with fail
    have hR1 := rdr_lt H1.out
    have hn1 : ¬ w1.heap.size = R := by omega
    refine (pick_any _ _ (q + 1) _ (rdr_alloc H1.out _) (by omega)).mono ?_
    rintro e w2 ⟨k2, rfl, hk2, hg, hr⟩
    have G2 := Lib.hid (grown_trans' G1.out (grown_trans' (World.grownBy_alloc _ _ _) hg)); have H2 := Lib.hid hr; clear hr
    obtain ⟨hc2, hf2, hz2⟩ := gfacts hg
    obtain ⟨⟨s0, s1, s2, s3⟩, t0, t1, t2, t3⟩ := zero_slot rfl G2.out hn0
    clear hg
    have hk2' : k2 = 0 ∨ k2 = 1 ∨ k2 = 2 ∨ k2 = 3 ∨ k2 = 4 := by omega
    rcases hk2' with rfl | rfl | rfl | rfl | rfl
    all_goals go_wp2
    all_goals refine bodyPost_ret (v := bk _ _ _ _) (by simp [results, Try.results28, go_sem, s0, s1, s2, s3]; exact ⟨rfl, rfl, rfl, rfl⟩) rfl ?_
    all_goals
      refine ⟨_, _, _, _, rfl, ?_, ?_, ?_⟩
      · unfold smallBk; omega
      · repeat (refine only_setCell ?_ (Nat.le_refl _) _)
        exact grown_after_alloc G2.out
      · refine rdr_more (q := q + 1 + 1) ?_ (by omega)
        repeat (refine rdr_setCell ?_ hR _)
        exact H2.out
end Go.Proofs.Ytkdogkpdgpppkaa
