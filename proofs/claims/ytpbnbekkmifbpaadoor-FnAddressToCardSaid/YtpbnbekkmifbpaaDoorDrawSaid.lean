/-
  The drawing of the texts of MentionsIn and TagsIn.
-/
import Derived.Test.YtpbnbekkmifbpaaDoorDrawText
import Derived.Test.YtpbnbekkmifbpaaDoorDrawMore
namespace Go.Proofs.YtpbnbekkmifbpaaDoor
open Go.ChangeShapes Go.WideShapes Go.ChangeAt Go.RowKit Go.Joins
set_option linter.unusedVariables false
variable {L : Nat}

theorem sd_size {o a : ByteArray} {j : Nat} (ha : a.size ≤ 9) (ho : o.size + 10 * j ≤ 50) (hj : 0 < j) : (o ++ a ++ ⟨#[32]⟩).size + 10 * (j - 1) ≤ 50 := by
  have h1 : (⟨#[32]⟩ : ByteArray).size = 1 := rfl
  rw [ByteArray.size_append, ByteArray.size_append]; omega
theorem sd_size0 {o : ByteArray} {j : Nat} (ho : o.size + 10 * j ≤ 50) (hj : 0 < j) : (o ++ ⟨#[32]⟩).size + 10 * (j - 1) ≤ 50 := by
  have h1 : (⟨#[32]⟩ : ByteArray).size = 1 := rfl
  rw [ByteArray.size_append]; omega
set_option maxRecDepth 100000 in
set_option maxHeartbeats 8000000 in
theorem l20sd_any (w : World) (R q : Nat) (n : Int) (h : Rdr w L R q) (hq : q ≤ 300) (hn : n ≤ 1000000) :
    Calls Tryd.prog 32 #[.pointer (some ⟨R, 0, none⟩), .int .i64 n] w fun e w' => ∃ s : ByteArray, e = .returned (.string s) ∧ s.size ≤ 81 ∧ w.grownBy w' (some R) ∧ Rdr w' L R (q + 60) := by
  have H := Lib.hid h; clear h
  have hR := rdr_lt H.out
  go_enter Tryd.func32, Tryd.ntmps32
  go_wp2_with fail
  refine (pick_any _ _ q _ H.out (by omega)).mono ?_
  rintro e w1 ⟨j0, rfl, hj0, hg, hr⟩
  have G1 := Lib.hid hg; have H1 := Lib.hid hr; clear hr hg
  have hj5 : j0 ≤ 5 := by omega
  go_wp2_with fail
  go_loopw [5, 6] (fun v i wr => ∃ (j : Nat) (o : ByteArray), j ≤ 5 ∧ i = .int .i64 j ∧ v = .string o ∧ o.size + 10 * j ≤ 50 ∧ w.grownBy wr (some R) ∧ Rdr wr L R (q + 1 + (5 - j))) (fun _ i _ => (intOf i).toNat)
  case atStart => exact ⟨j0, ⟨#[]⟩, hj5, rfl, rfl, by show 0 + 10 * j0 ≤ 50; omega, G1.out, rdr_more H1.out (by omega)⟩
  case round =>
    obtain ⟨j, o, hj, rfl, rfl, ho, hg, hr⟩ := hrel
    have HG := Lib.hid hg; have HR := Lib.hid hr
    clear hg hr H1 G1
    have hRl := rdr_lt HR.out
    by_cases hlt : 0 < j
    · have hne : ¬ wr.heap.size = R := by omega
      go_wp2_with fail
      refine (pick_any _ _ _ _ (rdr_alloc HR.out _) (by omega)).mono ?_
      rintro e w2 ⟨k2, rfl, hk2, hg, hr⟩
      have G2 := Lib.hid (grown_trans' HG.out (grown_trans' (World.grownBy_alloc _ _ _) hg)); have H2 := Lib.hid (rdr_more hr (q' := q + 1 + (5 - (j - 1))) (by omega)); clear hr
      obtain ⟨hc2, hf2, hz2⟩ := gfacts hg
      clear hg HR HG
      have hk2' : k2 = 0 ∨ k2 = 1 ∨ k2 = 2 ∨ k2 = 3 ∨ k2 = 4 ∨ k2 = 5 ∨ k2 = 6 ∨ k2 = 7 ∨ k2 = 8 := by omega
      rcases hk2' with rfl | rfl | rfl | rfl | rfl | rfl | rfl | rfl | rfl
      all_goals
        go_wp2
        go_roundw
        case rel => exact ⟨j - 1, _, by omega, by go_num, rfl, by first | exact sd_size (by decide) ho hlt | exact sd_size0 ho hlt, G2.out, H2.out⟩
        case measure => simp [intOf]; omega
    · obtain rfl : j = 0 := by omega
      go_wp2_with fail
      refine (odd_any _ _ _ _ HR.out (by omega) hn).mono ?_
      rintro e w2 ⟨b, rfl, hb, hg, hr⟩
      have G2 := Lib.hid (grown_trans' HG.out hg); have H2 := Lib.hid hr
      clear hg hr
      cases b
      · go_wp2_with fail
        go_ret
        exact ⟨_, rfl, by omega, G2.out, rdr_more H2.out (by omega)⟩
      · go_wp2_with fail
        refine (l20tx_any _ _ _ _ H2.out (by omega) (by omega)).mono ?_
        rintro e w3 ⟨y, rfl, hy, hg, hr⟩
        have G3 := Lib.hid (grown_trans' G2.out hg); have H3 := Lib.hid hr
        clear hg hr
        go_wp2_with fail
        go_ret
        exact ⟨_, rfl, hy, G3.out, rdr_more H3.out (by omega)⟩

theorem dmn_any (a : Option Addr) (len cap : Nat) (zs : List Int) (w0 w : World) (h : IsCode w0 a len cap zs) (hB : Below w0.heap.size w0 w) :
    Calls Tryd.prog 9 #[.slice a len cap] w fun e w' => ∃ s : ByteArray, e = .returned (.string s) ∧ s.size ≤ 81 ∧ Below w0.heap.size w0 w' := by
  have HC := Lib.hid h
  have HB := Lib.hid hB
  clear h hB
  go_enter Tryd.func9, Tryd.ntmps9
  go_wp2_with fail
  refine (open_any a len cap zs w0 _ HC.out HB.out).mono ?_
  rintro e w1 ⟨R, rfl, hb1, hR1, hR2, hr1⟩
  have HB1 := Lib.hid (belB HB.out HB.out.size hb1)
  have HR1 := Lib.hid hr1
  have hR0 : w0.heap.size ≤ R := by have := HB.out.size; omega
  clear hb1 hr1
  go_wp2_with fail
  refine (l20sd_any _ R 0 _ HR1.out (by omega) (by omega)).mono ?_
  rintro e w2 ⟨s, rfl, hs, hg2, hr2⟩
  have HB2 := Lib.hid (below_pick HB1.out hg2 hR0 HB1.out.size)
  clear hg2 hr2
  go_wp2_with fail
  go_ret
  exact ⟨s, rfl, hs, HB2.out⟩
theorem dtg_any (a : Option Addr) (len cap : Nat) (zs : List Int) (w0 w : World) (h : IsCode w0 a len cap zs) (hB : Below w0.heap.size w0 w) :
    Calls Tryd.prog 24 #[.slice a len cap] w fun e w' => ∃ s : ByteArray, e = .returned (.string s) ∧ s.size ≤ 81 ∧ Below w0.heap.size w0 w' := by
  have HC := Lib.hid h
  have HB := Lib.hid hB
  clear h hB
  go_enter Tryd.func24, Tryd.ntmps24
  go_wp2_with fail
  refine (open_any a len cap zs w0 _ HC.out HB.out).mono ?_
  rintro e w1 ⟨R, rfl, hb1, hR1, hR2, hr1⟩
  have HB1 := Lib.hid (belB HB.out HB.out.size hb1)
  have HR1 := Lib.hid hr1
  have hR0 : w0.heap.size ≤ R := by have := HB.out.size; omega
  clear hb1 hr1
  go_wp2_with fail
  refine (l20sd_any _ R 0 _ HR1.out (by omega) (by omega)).mono ?_
  rintro e w2 ⟨s, rfl, hs, hg2, hr2⟩
  have HB2 := Lib.hid (below_pick HB1.out hg2 hR0 HB1.out.size)
  clear hg2 hr2
  go_wp2_with fail
  go_ret
  exact ⟨s, rfl, hs, HB2.out⟩
end Go.Proofs.YtpbnbekkmifbpaaDoor
