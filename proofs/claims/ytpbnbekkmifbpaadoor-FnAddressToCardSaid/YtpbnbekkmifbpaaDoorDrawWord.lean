/-
  The drawing of words.
-/
import Derived.Test.YtpbnbekkmifbpaaDoorDraw
namespace Go.Proofs.YtpbnbekkmifbpaaDoor
open Go.ChangeShapes Go.WideShapes Go.ChangeAt Go.RowKit Go.Joins
set_option linter.unusedVariables false
variable {L : Nat}

set_option maxHeartbeats 1000000 in
theorem l20wd_any (w : World) (R q : Nat) (n : Int) (h : Rdr w L R q) (hq : q ≤ 1000) (hn : n ≤ 1000000) :
    Calls Tryd.prog 77 #[.pointer (some ⟨R, 0, none⟩), .int .i64 n] w fun e w' => ∃ s : ByteArray, e = .returned (.string s) ∧ s.size ≤ 9 ∧ w.grownBy w' (some R) ∧ Rdr w' L R (q + 2) := by
  have H := Lib.hid h; clear h
  have hR := rdr_lt H.out
  go_enter Tryd.func77, Tryd.ntmps77
  go_wp2_with fail
  refine (odd_any _ _ _ _ H.out (by omega) hn).mono ?_
  rintro e w1 ⟨b, rfl, hb, hg, hr⟩
  have G1 := Lib.hid hg; have H1 := Lib.hid hr; clear hr hg
  have hR1 := rdr_lt H1.out
  have hn1 : ¬ w1.heap.size = R := by omega
  cases b
  all_goals
    go_wp2_with fail
    refine (pick_any _ _ (q + 1) _ (rdr_alloc H1.out _) (by omega)).mono ?_
    rintro e w2 ⟨k2, rfl, hk2, hg, hr⟩
    have G2 := Lib.hid (grown_trans' G1.out (grown_trans' (World.grownBy_alloc _ _ _) hg)); have H2 := Lib.hid hr; clear hr
    obtain ⟨hc2, hf2, hz2⟩ := gfacts hg
    clear hg
    have hk2' : k2 = 0 ∨ k2 = 1 ∨ k2 = 2 ∨ k2 = 3 ∨ k2 = 4 ∨ k2 = 5 := by omega
    rcases hk2' with rfl | rfl | rfl | rfl | rfl | rfl
    all_goals first
      | (exfalso; omega)
      | (go_wp2
         go_ret
         exact ⟨_, rfl, by decide, G2.out, H2.out⟩)
end Go.Proofs.YtpbnbekkmifbpaaDoor
