/-
  The drawing of what is kept.
-/
import Derived.Test.YtgbbobpakjlddaaDraw
import Derived.Test.YtgbbobpakjlddaaKept
namespace Go.Proofs.Ytgbbobpakjlddaa
open Go.ChangeShapes Go.WideShapes Go.ChangeAt Go.RowKit Go.Joins
set_option linter.unusedVariables false
variable {L : Nat}

def smallKp (a b : Int) : Prop := (-10 ≤ a ∧ a ≤ 2000000) ∧ (-10 ≤ b ∧ b ≤ 2000000000)

set_option maxHeartbeats 1000000 in
theorem l20kp_any (w : World) (R q : Nat) (n : Int) (h : Rdr w L R q) (hq : q ≤ 1000) (hn : n ≤ 1000000) :
    Calls Try.prog 34 #[.pointer (some ⟨R, 0, none⟩), .int .i64 n] w fun e w' => ∃ a b, e = .returned (kp a b) ∧ smallKp a b ∧ w.grownBy w' (some R) ∧ Rdr w' L R (q + 10) := by
  have H := Lib.hid h; clear h
  have hR := rdr_lt H.out
  have hn0 : ¬ w.heap.size = R := by omega
  go_enter Try.func34, Try.ntmps34
  go_wp2_with fail
  refine (odd_any _ _ _ _ (rdr_alloc H.out _) (by omega) hn).mono ?_
  rintro e w1 ⟨b, rfl, hb, hg, hr⟩
  have G1 := Lib.hid hg; have H1 := Lib.hid hr; clear hr hg
  cases b
  · go_wp2_with fail
    refine (pick_any _ _ (q + 1) _ H1.out (by omega)).mono ?_
    rintro e w2 ⟨k2, rfl, hk2, hg, hr⟩
    have G2 := Lib.hid (grown_trans' G1.out hg); have H2 := Lib.hid hr; clear hr hg
    go_wp2_with fail
    refine (pick_any _ _ (q + 2) _ H2.out (by omega)).mono ?_
    rintro e w3 ⟨k3, rfl, hk3, hg, hr⟩
    have G3 := Lib.hid (grown_trans' G2.out hg); have H3 := Lib.hid hr; clear hr hg
    have hR3 := rdr_lt H3.out
    have hn3 : ¬ w3.heap.size = R := by omega
    go_wp2_with fail
    refine (pick_any _ _ (q + 3) _ (rdr_alloc H3.out _) (by omega)).mono ?_
    rintro e w4 ⟨k4, rfl, hk4, hg, hr⟩
    have G4 := Lib.hid (grown_trans' G3.out (grown_trans' (World.grownBy_alloc _ _ _) hg)); have H4 := Lib.hid hr; clear hr
    have s0 := slotG G4.out hn0 0 _ rfl
    have s1 := slotG G4.out hn0 1 _ rfl
    have t0 := slotGf G4.out hn0 0
    have t1 := slotGf G4.out hn0 1
    have c0 := slotG hg hn3 0 _ rfl
    have c1 := slotG hg hn3 1 _ rfl
    have c2 := slotG hg hn3 2 _ rfl
    have c3 := slotG hg hn3 3 _ rfl
    clear hg
    have hk4' : k4 = 0 ∨ (1 : Int) ≤ (k4 : Int) := by omega
    rcases hk4' with rfl | hk4'
    all_goals go_wp2
    all_goals refine bodyPost_ret (v := kp _ _) (by simp [results, Try.results34, go_sem, s0, s1]; exact ⟨rfl, rfl⟩) rfl ?_
    all_goals
      refine ⟨_, _, rfl, ?_, ?_, ?_⟩
      · unfold smallKp; omega
      · repeat (refine only_setCell ?_ (Nat.le_refl _) _)
        exact grown_after_alloc G4.out
      · refine rdr_more (q := q + 3 + 1) ?_ (by omega)
        repeat (refine rdr_setCell ?_ hR _)
        exact H4.out
  · go_wp2_with fail
    have hR1 := rdr_lt H1.out
    have hn1 : ¬ w1.heap.size = R := by omega
    refine (pick_any _ _ (q + 1) _ (rdr_alloc H1.out _) (by omega)).mono ?_
    rintro e w2 ⟨k2, rfl, hk2, hg, hr⟩
    have G2 := Lib.hid (grown_trans' G1.out (grown_trans' (World.grownBy_alloc _ _ _) hg)); have H2 := Lib.hid hr; clear hr
    obtain ⟨hc2, hf2, hz2⟩ := gfacts hg
    have s0 := slotG G2.out hn0 0 _ rfl
    have s1 := slotG G2.out hn0 1 _ rfl
    have t0 := slotGf G2.out hn0 0
    have t1 := slotGf G2.out hn0 1
    clear hg
    have hk2' : k2 = 0 ∨ k2 = 1 ∨ k2 = 2 ∨ k2 = 3 ∨ k2 = 4 := by omega
    rcases hk2' with rfl | rfl | rfl | rfl | rfl
    all_goals go_wp2
    all_goals refine bodyPost_ret (v := kp _ _) (by simp [results, Try.results34, go_sem, s0, s1]; exact ⟨rfl, rfl⟩) rfl ?_
    all_goals
      refine ⟨_, _, rfl, ?_, ?_, ?_⟩
      · unfold smallKp; omega
      · repeat (refine only_setCell ?_ (Nat.le_refl _) _)
        exact grown_after_alloc G2.out
      · refine rdr_more (q := q + 1 + 1) ?_ (by omega)
        repeat (refine rdr_setCell ?_ hR _)
        exact H2.out

theorem dkv_any (a : Option Addr) (len cap : Nat) (zs : List Int) (w0 w : World) (h : IsCode w0 a len cap zs) (hB : Below w0.heap.size w0 w) :
    Calls Try.prog 25 #[.slice a len cap] w fun e w' => ∃ a b, e = .returned (kp a b) ∧ smallKp a b ∧ Below w.heap.size w w' := by
  have H := Lib.hid h; clear h
  have HB := Lib.hid hB; clear hB
  go_enter Try.func25, Try.ntmps25
  go_wp2_with fail
  refine (open_any _ _ _ _ _ _ H.out (HB.out.alloc HB.out.size _)).mono ?_
  rintro e w1 ⟨R, rfl, hb, hR, hR2, hr⟩
  have HB1 := Lib.hid hb; have HR := Lib.hid hr; clear hb hr
  go_wp2_with fail
  refine (l20kp_any _ _ 0 _ HR.out (by omega) (by omega)).mono ?_
  rintro e w2 ⟨x, y, rfl, hs, hg, hr⟩
  have HB2 := Lib.hid (below_of_grown HB1.out hR hg)
  have HS := Lib.hid hs
  clear hg hr hs
  have s0 := slotB HB2.out 0 _ rfl
  have s1 := slotB HB2.out 1 _ rfl
  have t0 := slotBf HB2.out 0
  have t1 := slotBf HB2.out 1
  go_wp2
  refine bodyPost_ret (v := kp _ _) (by simp [results, Try.results25, go_sem, s0, s1]; exact ⟨rfl, rfl⟩) rfl ?_
  refine ⟨_, _, rfl, HS.out, ?_⟩
  exact ((below_slot rfl HB2.out).setCell (p := ⟨w.heap.size, 0, none⟩) (Nat.le_refl _) _).setCell (p := ⟨w.heap.size, 1, none⟩) (Nat.le_refl _) _

theorem kpV_1 : kpV (-1) 5 = false := by decide
theorem kpV_2 : kpV (-1) 0 = true := by decide
theorem kpV_3 {a b : Int} (h : kpV a b = true) : kpV a 0 = true := by
  obtain ⟨h1, h2, h3⟩ := kpV_iff.1 h
  exact kpV_iff.2 ⟨h1, ⟨by omega, by omega⟩, .inr rfl⟩
end Go.Proofs.Ytgbbobpakjlddaa
